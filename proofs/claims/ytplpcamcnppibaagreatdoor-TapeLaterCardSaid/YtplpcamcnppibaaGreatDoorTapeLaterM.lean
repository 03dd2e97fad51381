/-
  A part of the proof that contangolaw.TapeLater returns true: what the last text needs, and no more. No condition: no statement of the seat is proved here.
-/
import Derived.Laws.StructEq
import Derived.Test.YtplpcamcnppibaaGreatDoorTapeLaterL
namespace Go.Proofs.YtplpcamcnppibaaGreatDoor
open Go.RowKit
set_option linter.all false
set_option maxRecDepth 20000
theorem eqveql45 (a b c e : Int) (w : World) : (binOp .eql 45 (.agg #[.int .i64 a, .int .i64 b]) (.agg #[.int .i64 c, .int .i64 e])).run Tryz.prog w = .ok (.bool ((a == c && b == e))) w := by
  have u3 := Tryz.underlying3
  have a3 := Tryz.isAgg3
  have z3 := Tryz.sizeOf3
  have hS : Tryz.prog.underlying 45 = some (.struct (Tryz.prog.fieldsOf 45)) := by kernel_rfl
  have hp : Tryz.prog.stoodInHeld 45 = false := by kernel_rfl
  rw [run_eql_struct, show (10000 : Nat) = 9999 + 1 from rfl, run_equalIn_agg w 9999 45 _ _ hS hp]
  simp only [Program.fieldsOf, Tryz.underlying45]
  go_simp
  by_cases h1 : a = c <;> by_cases h2 : b = e <;> simp [h1, h2]
theorem q_eql45 {Γ : Cx} {σ : St} {o : Oper} {R : Rel} {x y : Operand} {t' : TypeId} {a b c d : Int} (h : o.op = .binOp .eql 45 x y t') (hx : σ.ev x = some (true, .d (.agg [.int .i64 a, .int .i64 b]))) (hy : σ.ev y = some (true, .d (.agg [.int .i64 c, .int .i64 d]))) :
    QV Γ Tryz.prog σ o R (.d (.bool ((a == c && b == d)))) := fun A w F hs => by
  obtain ⟨vs, e1, h1, _⟩ := hs.ev hx
  obtain ⟨us, e2, h2, _⟩ := hs.ev hy
  obtain ⟨v1, vs1, rfl, q1, v2, vs2, rfl, q2, q3⟩ := h1
  obtain ⟨u1, us1, rfl, p1, u2, us2, rfl, p2, p3⟩ := h2
  simp only [Rep, RepVals] at q1 q2 q3 p1 p2 p3
  subst q1 q2 q3 p1 p2 p3
  exact ⟨.bool ((a == c && b == d)), rfl, fun w' _ => by
    simp only [execOp, h, e1, e2, Sem.run_bind, run_eqGuard_agg w' .eql 45 x y _ _ (show Tryz.prog.eqGuardType Tryz.prog.depth 45 = false by kernel_rfl), Result.andThen_ok, eqveql45, Sem.run_pure]⟩
def prtB (p q : Prt) : Bool := p.stock == q.stock && ((p.nlo == q.nlo && p.nhi == q.nhi) && (p.fig == q.fig && ((p.full == q.full) && (p.minute == q.minute && (p.llo == q.llo && p.lhi == q.lhi)))))
def prtV (p : Prt) : Array Value := #[.int .i64 p.stock, .int .i64 p.nlo, .int .i64 p.nhi, .int .i64 p.fig, .bool p.full, .int .i64 p.minute, .int .i64 p.llo, .int .i64 p.lhi]
theorem rep_prt {F : Nat → Nat → Prop} {w : World} {p : Prt} {vs : List Value} (h : RepVals F w (prtE p) vs) : vs = (prtV p).toList := by
  obtain ⟨v1, _, rfl, q1, v2, _, rfl, q2, v3, _, rfl, q3, v4, _, rfl, q4, v5, _, rfl, q5, v6, _, rfl, q6, v7, _, rfl, q7, v8, _, rfl, q8, q9⟩ := h
  simp only [Rep, RepVals] at q1 q2 q3 q4 q5 q6 q7 q8 q9
  subst q1 q2 q3 q4 q5 q6 q7 q8 q9
  rfl
theorem eqveql47 (p q : Prt) (w : World) : (binOp .eql 47 (.agg (prtV p)) (.agg (prtV q))).run Tryz.prog w = .ok (.bool ((prtB p q))) w := by
  have u3 := Tryz.underlying3
  have a3 := Tryz.isAgg3
  have z3 := Tryz.sizeOf3
  have u4 := Tryz.underlying4
  have a4 := Tryz.isAgg4
  have z4 := Tryz.sizeOf4
  have a45 := Tryz.isAgg45
  have z45 := Tryz.sizeOf45
  have hS : Tryz.prog.underlying 47 = some (.struct (Tryz.prog.fieldsOf 47)) := by kernel_rfl
  have hp : Tryz.prog.stoodInHeld 47 = false := by kernel_rfl
  rw [run_eql_struct, show (10000 : Nat) = 9999 + 1 from rfl, run_equalIn_agg w 9999 47 _ _ hS hp]
  simp only [Program.fieldsOf, Tryz.underlying47, prtV, prtB]
  go_simp
  by_cases h1 : p.stock = q.stock
  · by_cases h2 : p.nlo = q.nlo
    · by_cases h3 : p.nhi = q.nhi
      · by_cases h4 : p.fig = q.fig
        · by_cases h5 : p.full = q.full
          · by_cases h6 : p.minute = q.minute
            · by_cases h7 : p.llo = q.llo
              · by_cases h8 : p.lhi = q.lhi <;> simp [h1, h2, h3, h4, h5, h6, h7, h8]
              · simp [h1, h2, h3, h4, h5, h6, h7]
            · simp [h1, h2, h3, h4, h5, h6]
          · simp [h1, h2, h3, h4, h5]
        · simp [h1, h2, h3, h4]
      · simp [h1, h2, h3]
    · simp [h1, h2]
  · simp [h1]
theorem q_eql47 {Γ : Cx} {σ : St} {o : Oper} {R : Rel} {x y : Operand} {t' : TypeId} {p q : Prt} (h : o.op = .binOp .eql 47 x y t') (hx : σ.ev x = some (true, .d (.agg (prtE p)))) (hy : σ.ev y = some (true, .d (.agg (prtE q)))) :
    QV Γ Tryz.prog σ o R (.d (.bool ((prtB p q)))) := fun A w F hs => by
  obtain ⟨vs, e1, h1, _⟩ := hs.ev hx
  obtain ⟨us, e2, h2, _⟩ := hs.ev hy
  have f1 := rep_prt h1
  have f2 := rep_prt h2
  subst f1 f2
  exact ⟨.bool ((prtB p q)), rfl, fun w' _ => by
    simp only [execOp, h, e1, e2, Sem.run_bind, run_eqGuard_agg w' .eql 47 x y _ _ (show Tryz.prog.eqGuardType Tryz.prog.depth 47 = false by kernel_rfl), Result.andThen_ok]
    rw [show (prtV p).toList.toArray = prtV p from rfl, show (prtV q).toList.toArray = prtV q from rfl, eqveql47]
    rfl⟩
end Go.Proofs.YtplpcamcnppibaaGreatDoor
namespace Go.Proofs.YtplpcamcnppibaaGreatDoor
open Go.RowKit
set_option maxRecDepth 20000
set_option linter.all false
set_option maxHeartbeats 4000000
abbrev earlyS : List UInt8 := [64, 53, 32, 65, 66, 32, 51, 115, 32, 56, 46, 50, 32, 56, 46, 53, 32, 76, 49, 45, 50, 32, 67, 32, 48, 46, 49, 32, 33, 32, 64, 55, 32, 48, 46, 55, 32, 63]
abbrev lateS : List UInt8 := [64, 53, 32, 65, 66, 32, 51, 115, 32, 56, 46, 50, 32, 76, 49, 45, 50, 32, 64, 55, 32, 56, 46, 53, 32, 67, 32, 48, 46, 49, 32, 33, 32, 64, 56, 32, 48, 46, 55, 32, 63]
abbrev wrongS : List UInt8 := [65, 66, 32, 56, 46, 50, 32, 51, 46, 48, 32, 56, 46, 53]
abbrev earlyL : List Prt := [⟨0, 3, 3, 66, false, 5, 0, 0⟩, ⟨0, 1, 1, 69, false, 5, 0, 0⟩, ⟨1, 1, 1, 1, false, 5, 1, 2⟩, ⟨1, 1, 4, 7, false, 7, 1, 2⟩]
abbrev lateL0 : List Prt := [⟨0, 3, 3, 66, false, 5, 0, 0⟩, ⟨0, 1, 1, 69, false, 7, 1, 2⟩, ⟨1, 1, 1, 1, false, 7, 1, 2⟩, ⟨1, 1, 4, 7, false, 8, 1, 2⟩]
abbrev wrongL : List Prt := [⟨0, 1, 1, 66, false, 0, 0, 0⟩, ⟨0, 1, 1, 24, false, 0, 0, 0⟩, ⟨0, 1, 1, 69, false, 0, 0, 0⟩]
theorem two_valid : checkT twoB = 0 := by kernel_rfl
theorem e_read : readI twoB earlyS = (earlyL, 0) := by rw [← ref_read two_valid]; kernel_rfl
theorem l_read : readI twoB lateS = (lateL0, 0) := by rw [← ref_read two_valid]; kernel_rfl
theorem w_read : readI twoB wrongS = (wrongL, 0) := by rw [← ref_read two_valid]; kernel_rfl
theorem e_prices : pricesI twoB earlyS = ([(306, 306), (309, 309), (81, 81), (87, 87)], 0) := by unfold pricesI; rw [e_read]; kernel_rfl
theorem l_minutes : minutesI twoB lateS = ([(5, 5), (5, 6), (5, 6), (6, 7)], 0) := by unfold minutesI; rw [l_read]; kernel_rfl
theorem l_find : findI twoB lateS ⟨0, 309, 1, 6, 9⟩ = ([1], 0) := by unfold findI; rw [l_read]; kernel_rfl
theorem w_mis : misI twoB wrongS = ([1], 0) := by unfold misI; rw [w_read]; kernel_rfl
theorem e_prove : proveI twoB earlyS [306, 309, 81, 87] = true := by unfold proveI; rw [e_read]; kernel_rfl
theorem e_write : writeI twoB [⟨0, 3, 306, 5⟩, ⟨0, 1, 309, 5⟩, ⟨1, 1, 81, 7⟩] = ([64, 53, 32, 65, 66, 32, 51, 115, 32, 56, 46, 50, 32, 56, 46, 53, 32, 64, 55, 32, 67, 32, 48, 46, 49], 0) := by kernel_rfl
theorem two_names : NamesOK twoB := fun s hs => by
  simp only [twoB, List.mem_cons, List.not_mem_nil, or_false] at hs
  rcases hs with rfl | rfl <;> simp
theorem qv_eq {Γ : Cx} {P : Program} {σ : St} {o : Oper} {R : Rel} {tv tv' : TV} (h : QV Γ P σ o R tv) (e : tv = tv') : QV Γ P σ o R tv' := e ▸ h
abbrev lateSlp : Slp := ⟨0, 309, 1, 6, 9⟩
theorem awake_eff  : EffAt Tryz.prog 17 [] [] (X := Unit) (fun _ => .d (.bool true)) (fun _ => []) := by
 refine EffAt.of_awp Tryz.func17 rfl (by kernel_rfl) rfl fun Γ hn => ?_
 refine awp_seq (awp_region ?_)
 refine sq rfl rfl hn rfl (q_assign rfl rfl) ?_
 refine run_nil (aend_then (awp_seq (awp_region ?_)))
 refine stepW (s_call [] (fun _ => two_ok) rfl (guard_none rfl) rfl (nb hn rfl) (fun _ => trivial) rfl rfl (.refl _)) fun _ => ?_
 refine stepW (s_call [] (fun _ => (by have h := Read_ok twoB earlyS two_names (by decide); rw [e_read] at h; exact h)) rfl (guard_none rfl) rfl (nb hn rfl) (fun _ => trivial) rfl rfl (.refl _)) fun _ => ?_
 refine sq rfl rfl hn rfl (q_move rfl rfl) ?_
 refine sq rfl rfl hn rfl (q_extractd rfl rfl rfl) ?_
 refine sq rfl rfl hn rfl (q_extractd rfl rfl rfl) ?_
 refine sq rfl rfl hn rfl (q_assign rfl rfl) ?_
 refine sq rfl rfl hn rfl (q_assign rfl rfl) ?_
 refine run_nil (aend_then (awp_seq (awp_region ?_)))
 refine stepW (s_call [] (fun _ => two_ok) rfl (guard_none rfl) rfl (nb hn rfl) (fun _ => trivial) rfl rfl (.refl _)) fun _ => ?_
 refine stepW (s_call [] (fun _ => (by have h := Prices_ok twoB earlyS two_names (by decide); rw [e_prices] at h; exact h)) rfl (guard_none rfl) rfl (nb hn rfl) (fun _ => trivial) rfl rfl (.refl _)) fun _ => ?_
 refine sq rfl rfl hn rfl (q_move rfl rfl) ?_
 refine sq rfl rfl hn rfl (q_extractd rfl rfl rfl) ?_
 refine sq rfl rfl hn rfl (q_extractd rfl rfl rfl) ?_
 refine sq rfl rfl hn rfl (q_assign rfl rfl) ?_
 refine sq rfl rfl hn rfl (q_assign rfl rfl) ?_
 refine run_nil (aend_then (awp_seq (awp_region ?_)))
 refine stepW (s_call [] (fun _ => two_ok) rfl (guard_none rfl) rfl (nb hn rfl) (fun _ => trivial) rfl rfl (.refl _)) fun _ => ?_
 refine stepW (s_call [] (fun _ => (by have h := Minutes_ok twoB lateS two_names (by decide); rw [l_minutes] at h; exact h)) rfl (guard_none rfl) rfl (nb hn rfl) (fun _ => trivial) rfl rfl (.refl _)) fun _ => ?_
 refine sq rfl rfl hn rfl (q_move rfl rfl) ?_
 refine sq rfl rfl hn rfl (q_extractd rfl rfl rfl) ?_
 refine sq rfl rfl hn rfl (q_extractd rfl rfl rfl) ?_
 refine sq rfl rfl hn rfl (q_assign rfl rfl) ?_
 refine sq rfl rfl hn rfl (q_assign rfl rfl) ?_
 refine run_nil (aend_then (awp_seq (awp_region ?_)))
 refine stepW (s_call [] (fun _ => two_ok) rfl (guard_none rfl) rfl (nb hn rfl) (fun _ => trivial) rfl rfl (.refl _)) fun _ => ?_
 refine stepW (s_call [] (fun _ => between_ok _ _) rfl (guard_none rfl) rfl (nb hn rfl) (fun _ => trivial) rfl rfl (.refl _)) fun _ => ?_
 refine sq rfl rfl hn rfl (q_buildd rfl bt61 rfl rfl rfl rfl rfl) ?_
 refine stepW (s_call [] (fun _ => (by have h := Find_ok twoB lateS lateSlp two_names (by decide); rw [l_find] at h; exact h)) rfl (guard_none rfl) rfl (nb hn rfl) (fun _ => trivial) rfl rfl (by first | exact .refl _ | (repeat (first | exact .refl _ | exact .nil _ | refine .cons ?_ ?_ | refine .agg ?_ | refine .tup ?_)))) fun _ => ?_
 refine sq rfl rfl hn rfl (q_move rfl rfl) ?_
 refine sq rfl rfl hn rfl (q_extractd rfl rfl rfl) ?_
 refine sq rfl rfl hn rfl (q_extractd rfl rfl rfl) ?_
 refine sq rfl rfl hn rfl (q_assign rfl rfl) ?_
 refine sq rfl rfl hn rfl (q_assign rfl rfl) ?_
 refine run_nil (aend_then (awp_seq (awp_region ?_)))
 refine stepW (s_call [] (fun _ => two_ok) rfl (guard_none rfl) rfl (nb hn rfl) (fun _ => trivial) rfl rfl (.refl _)) fun _ => ?_
 refine stepW (s_call [] (fun _ => (by have h := Misprints_ok twoB wrongS two_names (by decide); rw [w_mis] at h; exact h)) rfl (guard_none rfl) rfl (nb hn rfl) (fun _ => trivial) rfl rfl (.refl _)) fun _ => ?_
 refine sq rfl rfl hn rfl (q_move rfl rfl) ?_
 refine sq rfl rfl hn rfl (q_extractd rfl rfl rfl) ?_
 refine sq rfl rfl hn rfl (q_extractd rfl rfl rfl) ?_
 refine sq rfl rfl hn rfl (q_assign rfl rfl) ?_
 refine sq rfl rfl hn rfl (q_assign rfl rfl) ?_
 refine run_nil (aend_then (awp_seq (awp_region ?_)))
 refine stepW (s_call [] (fun _ => two_ok) rfl (guard_none rfl) rfl (nb hn rfl) (fun _ => trivial) rfl rfl (.refl _)) fun _ => ?_
 refine sq rfl rfl hn rfl (q_buildd rfl bt115 rfl rfl rfl rfl rfl) ?_
 refine sq rfl rfl hn rfl (q_buildd rfl bt115 rfl rfl rfl rfl rfl) ?_
 refine sq rfl rfl hn rfl (q_buildd rfl bt115 rfl rfl rfl rfl rfl) ?_
 refine stepW (s_buildSlice rfl rfl rfl (nb hn rfl) Tryz.underlying73 sz115 zr115 rfl rfl rfl (show _ = [.d (.int .i64 0), .d (.int .i64 0), .d (.int .i64 0), .d (.int .i64 0), .d (.int .i64 0), .d (.int .i64 0), .d (.int .i64 0), .d (.int .i64 0), .d (.int .i64 0), .d (.int .i64 0), .d (.int .i64 0), .d (.int .i64 0)] from by kernel_rfl) (by kernel_rfl) rfl rfl rfl rfl rfl) fun _ => ?_
 refine stepW (s_call [] (fun _ => (by have h := Write_ok twoB [⟨0, 3, 306, 5⟩, ⟨0, 1, 309, 5⟩, ⟨1, 1, 81, 7⟩] two_names; rw [e_write] at h; exact h)) rfl (guard_none rfl) rfl (nb hn rfl) (fun _ => trivial) rfl rfl (.refl _)) fun _ => ?_
 refine sq rfl rfl hn rfl (q_move rfl rfl) ?_
 refine sq rfl rfl hn rfl (q_extractd rfl rfl rfl) ?_
 refine sq rfl rfl hn rfl (q_extractd rfl rfl rfl) ?_
 refine sq rfl rfl hn rfl (q_assign rfl rfl) ?_
 refine sq rfl rfl hn rfl (q_assign rfl rfl) ?_
 refine run_nil (aend_then (awp_seq ?_))
 refine d_start (W := fun b => True) fmo ?_
 refine d1q (i := 0) rfl (by as_aux_lemma => kernel_rfl) (fun _ _ _ _ h => h) rfl rfl hn rfl (q_move rfl rfl) ?_
 refine d1q (i := 1) rfl (by as_aux_lemma => kernel_rfl) (fun _ _ _ _ h => h) rfl rfl hn rfl (qv_eq (tv' := .d (.bool true)) (q_eql rfl rfl rfl) rfl) ?_
 refine d1q (i := 2) rfl (by as_aux_lemma => kernel_rfl) (fun _ _ _ _ h => h) rfl rfl hn rfl (q_move rfl rfl) ?_
 refine d1g (i := 3) [] rfl (by as_aux_lemma => kernel_rfl) (fun _ _ _ _ h => h) (guard_some rfl rfl rfl) rfl hn rfl (fun hc => trivial) (fun hc => q_move rfl rfl) ?_
 refine d1g (i := 4) [(52, _)] rfl (by as_aux_lemma => kernel_rfl) (fun _ _ _ _ h => h) (guard_some rfl rfl rfl) rfl hn rfl (fun hc => ⟨⟨_, rfl, hc⟩, trivial⟩) (fun hc => q_len rfl rfl Tryz.underlying27) ?_
 refine d1g (i := 5) [(53, _)] rfl (by as_aux_lemma => kernel_rfl) (fun _ _ _ _ h => h) (guard_some rfl rfl rfl) rfl hn rfl (fun hc => ⟨⟨_, rfl, hc⟩, trivial⟩) (fun hc => qv_eq (tv' := .d (.bool true)) (q_eql rfl rfl rfl) rfl) ?_
 refine d1q (i := 6) rfl (by as_aux_lemma => kernel_rfl) (fun _ _ _ _ h => h) rfl rfl hn rfl (qv_eq (tv' := .d (.bool true)) (q_and rfl rfl rfl (by intro hB; first | (rw [hB]; rfl) | (rw [hB, hc]; rfl) | simp_all)) rfl) ?_
 refine d1q (i := 7) rfl (by as_aux_lemma => kernel_rfl) (fun _ _ _ _ h => h) rfl rfl hn rfl (q_move rfl rfl) ?_
 refine d1g (i := 8) [] rfl (by as_aux_lemma => kernel_rfl) (fun _ _ _ _ h => h) (guard_some rfl rfl rfl) rfl hn rfl (fun hc => trivial) (fun hc => q_move rfl rfl) ?_
 refine d1g (i := 9) [(57, _)] rfl (by as_aux_lemma => kernel_rfl) (fun _ _ _ _ h => h) (guard_some rfl rfl rfl) rfl hn rfl (fun hc => ⟨⟨_, rfl, hc⟩, trivial⟩) (fun hc => q_index (i := 3) rfl rfl rfl Tryz.underlying27 sz47 rfl rfl) ?_
 refine d1g (i := 10) [(58, _)] rfl (by as_aux_lemma => kernel_rfl) (fun _ _ _ _ h => h) (guard_some rfl rfl rfl) rfl hn rfl (fun hc => ⟨⟨_, rfl, hc⟩, trivial⟩) (fun hc => q_loadpA rfl rfl Tryz.underlying47 rfl sz47 rfl rfl seesFA) ?_
 refine d1_of_d2 ?_
 refine d2_one (i := 11) (by as_aux_lemma => kernel_rfl) rfl (s_call [] (fun hc => between_ok _ _) rfl (guard_some rfl rfl rfl) rfl (nb hn rfl) (fun hc => trivial) rfl rfl (.refl _)) fun _ => ?_
 refine d2_of_d1 (d1_of_d2 ?_)
 refine d2_one (i := 12) (by as_aux_lemma => kernel_rfl) rfl (s_call [] (fun hc => between_ok _ _) rfl (guard_some rfl rfl rfl) rfl (nb hn rfl) (fun hc => trivial) rfl rfl (.refl _)) fun _ => ?_
 refine d2_of_d1 ?_
 refine d1g (i := 13) [(60, _), (61, _)] rfl (by as_aux_lemma => kernel_rfl) (fun _ _ _ _ h => h) (guard_some rfl rfl rfl) rfl hn rfl (fun hc => ⟨⟨_, rfl, hc⟩, ⟨_, rfl, hc⟩, trivial⟩) (fun hc => q_buildd rfl bt47 rfl rfl rfl rfl rfl) ?_
 refine d1g (i := 14) [(59, _), (62, _)] rfl (by as_aux_lemma => kernel_rfl) (fun _ _ _ _ h => h) (guard_some rfl rfl rfl) rfl hn rfl (fun hc => ⟨⟨_, rfl, hc⟩, ⟨_, rfl, hc⟩, trivial⟩) (fun hc => qv_eq (tv' := .d (.bool true)) (q_eql47 (p := ⟨1, 1, 4, 7, false, 7, 1, 2⟩) (q := ⟨1, 1, 4, 7, false, 7, 1, 2⟩) rfl rfl rfl) rfl) ?_
 refine d1q (i := 15) rfl (by as_aux_lemma => kernel_rfl) (fun _ _ _ _ h => h) rfl rfl hn rfl (qv_eq (tv' := .d (.bool true)) (q_and rfl rfl rfl (by intro hB; first | (rw [hB]; rfl) | (rw [hB, hc]; rfl) | simp_all)) rfl) ?_
 refine d1q (i := 16) rfl (by as_aux_lemma => kernel_rfl) (fun _ _ _ _ h => h) rfl rfl hn rfl (q_move rfl rfl) ?_
 refine d1g (i := 17) [] rfl (by as_aux_lemma => kernel_rfl) (fun _ _ _ _ h => h) (guard_some rfl rfl rfl) rfl hn rfl (fun hc => trivial) (fun hc => q_move rfl rfl) ?_
 refine d1g (i := 18) [(66, _)] rfl (by as_aux_lemma => kernel_rfl) (fun _ _ _ _ h => h) (guard_some rfl rfl rfl) rfl hn rfl (fun hc => ⟨⟨_, rfl, hc⟩, trivial⟩) (fun hc => qv_eq (tv' := .d (.bool true)) (q_eql rfl rfl rfl) rfl) ?_
 refine d1q (i := 19) rfl (by as_aux_lemma => kernel_rfl) (fun _ _ _ _ h => h) rfl rfl hn rfl (qv_eq (tv' := .d (.bool true)) (q_and rfl rfl rfl (by intro hB; first | (rw [hB]; rfl) | (rw [hB, hc]; rfl) | simp_all)) rfl) ?_
 refine d1q (i := 20) rfl (by as_aux_lemma => kernel_rfl) (fun _ _ _ _ h => h) rfl rfl hn rfl (q_move rfl rfl) ?_
 refine d1g (i := 21) [] rfl (by as_aux_lemma => kernel_rfl) (fun _ _ _ _ h => h) (guard_some rfl rfl rfl) rfl hn rfl (fun hc => trivial) (fun hc => q_move rfl rfl) ?_
 refine d1g (i := 22) [(70, _)] rfl (by as_aux_lemma => kernel_rfl) (fun _ _ _ _ h => h) (guard_some rfl rfl rfl) rfl hn rfl (fun hc => ⟨⟨_, rfl, hc⟩, trivial⟩) (fun hc => q_len rfl rfl Tryz.underlying48) ?_
 refine d1g (i := 23) [(71, _)] rfl (by as_aux_lemma => kernel_rfl) (fun _ _ _ _ h => h) (guard_some rfl rfl rfl) rfl hn rfl (fun hc => ⟨⟨_, rfl, hc⟩, trivial⟩) (fun hc => qv_eq (tv' := .d (.bool true)) (q_eql rfl rfl rfl) rfl) ?_
 refine d1q (i := 24) rfl (by as_aux_lemma => kernel_rfl) (fun _ _ _ _ h => h) rfl rfl hn rfl (qv_eq (tv' := .d (.bool true)) (q_and rfl rfl rfl (by intro hB; first | (rw [hB]; rfl) | (rw [hB, hc]; rfl) | simp_all)) rfl) ?_
 refine d1q (i := 25) rfl (by as_aux_lemma => kernel_rfl) (fun _ _ _ _ h => h) rfl rfl hn rfl (q_move rfl rfl) ?_
 refine d1g (i := 26) [] rfl (by as_aux_lemma => kernel_rfl) (fun _ _ _ _ h => h) (guard_some rfl rfl rfl) rfl hn rfl (fun hc => trivial) (fun hc => q_move rfl rfl) ?_
 refine d1g (i := 27) [(75, _)] rfl (by as_aux_lemma => kernel_rfl) (fun _ _ _ _ h => h) (guard_some rfl rfl rfl) rfl hn rfl (fun hc => ⟨⟨_, rfl, hc⟩, trivial⟩) (fun hc => q_index (i := 0) rfl rfl rfl Tryz.underlying48 sz45 rfl rfl) ?_
 refine d1g (i := 28) [(76, _)] rfl (by as_aux_lemma => kernel_rfl) (fun _ _ _ _ h => h) (guard_some rfl rfl rfl) rfl hn rfl (fun hc => ⟨⟨_, rfl, hc⟩, trivial⟩) (fun hc => q_loadpA rfl rfl Tryz.underlying45 rfl sz45 rfl rfl seesFA) ?_
 refine d1_of_d2 ?_
 refine d2_one (i := 29) (by as_aux_lemma => kernel_rfl) rfl (s_call [] (fun hc => between_ok _ _) rfl (guard_some rfl rfl rfl) rfl (nb hn rfl) (fun hc => trivial) rfl rfl (.refl _)) fun _ => ?_
 refine d2_of_d1 ?_
 refine d1g (i := 30) [(77, _), (78, _)] rfl (by as_aux_lemma => kernel_rfl) (fun _ _ _ _ h => h) (guard_some rfl rfl rfl) rfl hn rfl (fun hc => ⟨⟨_, rfl, hc⟩, ⟨_, rfl, hc⟩, trivial⟩) (fun hc => qv_eq (tv' := .d (.bool true)) (q_eql45 rfl rfl rfl) rfl) ?_
 refine d1q (i := 31) rfl (by as_aux_lemma => kernel_rfl) (fun _ _ _ _ h => h) rfl rfl hn rfl (qv_eq (tv' := .d (.bool true)) (q_and rfl rfl rfl (by intro hB; first | (rw [hB]; rfl) | (rw [hB, hc]; rfl) | simp_all)) rfl) ?_
 refine d1q (i := 32) rfl (by as_aux_lemma => kernel_rfl) (fun _ _ _ _ h => h) rfl rfl hn rfl (q_move rfl rfl) ?_
 refine d1g (i := 33) [] rfl (by as_aux_lemma => kernel_rfl) (fun _ _ _ _ h => h) (guard_some rfl rfl rfl) rfl hn rfl (fun hc => trivial) (fun hc => q_move rfl rfl) ?_
 refine d1g (i := 34) [(82, _)] rfl (by as_aux_lemma => kernel_rfl) (fun _ _ _ _ h => h) (guard_some rfl rfl rfl) rfl hn rfl (fun hc => ⟨⟨_, rfl, hc⟩, trivial⟩) (fun hc => q_index (i := 3) rfl rfl rfl Tryz.underlying48 sz45 rfl rfl) ?_
 refine d1g (i := 35) [(83, _)] rfl (by as_aux_lemma => kernel_rfl) (fun _ _ _ _ h => h) (guard_some rfl rfl rfl) rfl hn rfl (fun hc => ⟨⟨_, rfl, hc⟩, trivial⟩) (fun hc => q_loadpA rfl rfl Tryz.underlying45 rfl sz45 rfl rfl seesFA) ?_
 refine d1_of_d2 ?_
 refine d2_one (i := 36) (by as_aux_lemma => kernel_rfl) rfl (s_call [] (fun hc => between_ok _ _) rfl (guard_some rfl rfl rfl) rfl (nb hn rfl) (fun hc => trivial) rfl rfl (.refl _)) fun _ => ?_
 refine d2_of_d1 ?_
 refine d1g (i := 37) [(84, _), (85, _)] rfl (by as_aux_lemma => kernel_rfl) (fun _ _ _ _ h => h) (guard_some rfl rfl rfl) rfl hn rfl (fun hc => ⟨⟨_, rfl, hc⟩, ⟨_, rfl, hc⟩, trivial⟩) (fun hc => qv_eq (tv' := .d (.bool true)) (q_eql45 rfl rfl rfl) rfl) ?_
 refine d1q (i := 38) rfl (by as_aux_lemma => kernel_rfl) (fun _ _ _ _ h => h) rfl rfl hn rfl (qv_eq (tv' := .d (.bool true)) (q_and rfl rfl rfl (by intro hB; first | (rw [hB]; rfl) | (rw [hB, hc]; rfl) | simp_all)) rfl) ?_
 refine d1q (i := 39) rfl (by as_aux_lemma => kernel_rfl) (fun _ _ _ _ h => h) rfl rfl hn rfl (q_move rfl rfl) ?_
 refine d1g (i := 40) [] rfl (by as_aux_lemma => kernel_rfl) (fun _ _ _ _ h => h) (guard_some rfl rfl rfl) rfl hn rfl (fun hc => trivial) (fun hc => q_move rfl rfl) ?_
 refine d1g (i := 41) [(89, _)] rfl (by as_aux_lemma => kernel_rfl) (fun _ _ _ _ h => h) (guard_some rfl rfl rfl) rfl hn rfl (fun hc => ⟨⟨_, rfl, hc⟩, trivial⟩) (fun hc => qv_eq (tv' := .d (.bool true)) (q_eql rfl rfl rfl) rfl) ?_
 refine d1q (i := 42) rfl (by as_aux_lemma => kernel_rfl) (fun _ _ _ _ h => h) rfl rfl hn rfl (qv_eq (tv' := .d (.bool true)) (q_and rfl rfl rfl (by intro hB; first | (rw [hB]; rfl) | (rw [hB, hc]; rfl) | simp_all)) rfl) ?_
 refine d1q (i := 43) rfl (by as_aux_lemma => kernel_rfl) (fun _ _ _ _ h => h) rfl rfl hn rfl (q_move rfl rfl) ?_
 refine d1g (i := 44) [] rfl (by as_aux_lemma => kernel_rfl) (fun _ _ _ _ h => h) (guard_some rfl rfl rfl) rfl hn rfl (fun hc => trivial) (fun hc => q_move rfl rfl) ?_
 refine d1g (i := 45) [(93, _)] rfl (by as_aux_lemma => kernel_rfl) (fun _ _ _ _ h => h) (guard_some rfl rfl rfl) rfl hn rfl (fun hc => ⟨⟨_, rfl, hc⟩, trivial⟩) (fun hc => q_len rfl rfl Tryz.underlying48) ?_
 refine d1g (i := 46) [(94, _)] rfl (by as_aux_lemma => kernel_rfl) (fun _ _ _ _ h => h) (guard_some rfl rfl rfl) rfl hn rfl (fun hc => ⟨⟨_, rfl, hc⟩, trivial⟩) (fun hc => qv_eq (tv' := .d (.bool true)) (q_eql rfl rfl rfl) rfl) ?_
 refine d1q (i := 47) rfl (by as_aux_lemma => kernel_rfl) (fun _ _ _ _ h => h) rfl rfl hn rfl (qv_eq (tv' := .d (.bool true)) (q_and rfl rfl rfl (by intro hB; first | (rw [hB]; rfl) | (rw [hB, hc]; rfl) | simp_all)) rfl) ?_
 refine d1q (i := 48) rfl (by as_aux_lemma => kernel_rfl) (fun _ _ _ _ h => h) rfl rfl hn rfl (q_move rfl rfl) ?_
 refine d1g (i := 49) [] rfl (by as_aux_lemma => kernel_rfl) (fun _ _ _ _ h => h) (guard_some rfl rfl rfl) rfl hn rfl (fun hc => trivial) (fun hc => q_move rfl rfl) ?_
 refine d1g (i := 50) [(98, _)] rfl (by as_aux_lemma => kernel_rfl) (fun _ _ _ _ h => h) (guard_some rfl rfl rfl) rfl hn rfl (fun hc => ⟨⟨_, rfl, hc⟩, trivial⟩) (fun hc => q_index (i := 1) rfl rfl rfl Tryz.underlying48 sz45 rfl rfl) ?_
 refine d1g (i := 51) [(99, _)] rfl (by as_aux_lemma => kernel_rfl) (fun _ _ _ _ h => h) (guard_some rfl rfl rfl) rfl hn rfl (fun hc => ⟨⟨_, rfl, hc⟩, trivial⟩) (fun hc => q_loadpA rfl rfl Tryz.underlying45 rfl sz45 rfl rfl seesFA) ?_
 refine d1_of_d2 ?_
 refine d2_one (i := 52) (by as_aux_lemma => kernel_rfl) rfl (s_call [] (fun hc => between_ok _ _) rfl (guard_some rfl rfl rfl) rfl (nb hn rfl) (fun hc => trivial) rfl rfl (.refl _)) fun _ => ?_
 refine d2_of_d1 ?_
 refine d1g (i := 53) [(100, _), (101, _)] rfl (by as_aux_lemma => kernel_rfl) (fun _ _ _ _ h => h) (guard_some rfl rfl rfl) rfl hn rfl (fun hc => ⟨⟨_, rfl, hc⟩, ⟨_, rfl, hc⟩, trivial⟩) (fun hc => qv_eq (tv' := .d (.bool true)) (q_eql45 rfl rfl rfl) rfl) ?_
 refine d1q (i := 54) rfl (by as_aux_lemma => kernel_rfl) (fun _ _ _ _ h => h) rfl rfl hn rfl (qv_eq (tv' := .d (.bool true)) (q_and rfl rfl rfl (by intro hB; first | (rw [hB]; rfl) | (rw [hB, hc]; rfl) | simp_all)) rfl) ?_
 refine d1q (i := 55) rfl (by as_aux_lemma => kernel_rfl) (fun _ _ _ _ h => h) rfl rfl hn rfl (q_move rfl rfl) ?_
 refine d1g (i := 56) [] rfl (by as_aux_lemma => kernel_rfl) (fun _ _ _ _ h => h) (guard_some rfl rfl rfl) rfl hn rfl (fun hc => trivial) (fun hc => q_move rfl rfl) ?_
 refine d1g (i := 57) [(105, _)] rfl (by as_aux_lemma => kernel_rfl) (fun _ _ _ _ h => h) (guard_some rfl rfl rfl) rfl hn rfl (fun hc => ⟨⟨_, rfl, hc⟩, trivial⟩) (fun hc => q_index (i := 3) rfl rfl rfl Tryz.underlying48 sz45 rfl rfl) ?_
 refine d1g (i := 58) [(106, _)] rfl (by as_aux_lemma => kernel_rfl) (fun _ _ _ _ h => h) (guard_some rfl rfl rfl) rfl hn rfl (fun hc => ⟨⟨_, rfl, hc⟩, trivial⟩) (fun hc => q_loadpA rfl rfl Tryz.underlying45 rfl sz45 rfl rfl seesFA) ?_
 refine d1_of_d2 ?_
 refine d2_one (i := 59) (by as_aux_lemma => kernel_rfl) rfl (s_call [] (fun hc => between_ok _ _) rfl (guard_some rfl rfl rfl) rfl (nb hn rfl) (fun hc => trivial) rfl rfl (.refl _)) fun _ => ?_
 refine d2_of_d1 ?_
 refine d1g (i := 60) [(107, _), (108, _)] rfl (by as_aux_lemma => kernel_rfl) (fun _ _ _ _ h => h) (guard_some rfl rfl rfl) rfl hn rfl (fun hc => ⟨⟨_, rfl, hc⟩, ⟨_, rfl, hc⟩, trivial⟩) (fun hc => qv_eq (tv' := .d (.bool true)) (q_eql45 rfl rfl rfl) rfl) ?_
 refine d1q (i := 61) rfl (by as_aux_lemma => kernel_rfl) (fun _ _ _ _ h => h) rfl rfl hn rfl (qv_eq (tv' := .d (.bool true)) (q_and rfl rfl rfl (by intro hB; first | (rw [hB]; rfl) | (rw [hB, hc]; rfl) | simp_all)) rfl) ?_
 refine d1q (i := 62) rfl (by as_aux_lemma => kernel_rfl) (fun _ _ _ _ h => h) rfl rfl hn rfl (q_move rfl rfl) ?_
 refine d1g (i := 63) [] rfl (by as_aux_lemma => kernel_rfl) (fun _ _ _ _ h => h) (guard_some rfl rfl rfl) rfl hn rfl (fun hc => trivial) (fun hc => q_move rfl rfl) ?_
 refine d1g (i := 64) [(112, _)] rfl (by as_aux_lemma => kernel_rfl) (fun _ _ _ _ h => h) (guard_some rfl rfl rfl) rfl hn rfl (fun hc => ⟨⟨_, rfl, hc⟩, trivial⟩) (fun hc => qv_eq (tv' := .d (.bool true)) (q_eql rfl rfl rfl) rfl) ?_
 refine d1q (i := 65) rfl (by as_aux_lemma => kernel_rfl) (fun _ _ _ _ h => h) rfl rfl hn rfl (qv_eq (tv' := .d (.bool true)) (q_and rfl rfl rfl (by intro hB; first | (rw [hB]; rfl) | (rw [hB, hc]; rfl) | simp_all)) rfl) ?_
 refine d1q (i := 66) rfl (by as_aux_lemma => kernel_rfl) (fun _ _ _ _ h => h) rfl rfl hn rfl (q_move rfl rfl) ?_
 refine d1g (i := 67) [] rfl (by as_aux_lemma => kernel_rfl) (fun _ _ _ _ h => h) (guard_some rfl rfl rfl) rfl hn rfl (fun hc => trivial) (fun hc => q_move rfl rfl) ?_
 refine d1_of_d2 ?_
 refine d2_one (i := 68) (by as_aux_lemma => kernel_rfl) rfl (s_guard (guard_some rfl rfl rfl) rfl (nb hn rfl) (s_buildSlice rfl rfl rfl (nb hn rfl) Tryz.underlying57 sz3 zr3 rfl rfl rfl (show _ = [.d (.int .i64 0)] from by kernel_rfl) (by kernel_rfl) rfl rfl rfl rfl rfl)) fun _ => ?_
 refine d2_of_d1 (d1_of_d2 ?_)
 refine d2_one (i := 69) (by as_aux_lemma => kernel_rfl) rfl (s_call [(116, _), (117, _)] (fun hc => ints_ok [1] [1]) rfl (guard_some rfl rfl rfl) rfl (nb hn rfl) (fun hc => ⟨⟨_, rfl, hc⟩, ⟨_, rfl, hc⟩, trivial⟩) rfl rfl (.refl _)) fun _ => ?_
 refine d2_of_d1 ?_
 refine d1q (i := 70) rfl (by as_aux_lemma => kernel_rfl) (fun _ _ _ _ h => h) rfl rfl hn rfl (qv_eq (tv' := .d (.bool true)) (q_and rfl rfl rfl (by intro hB; first | (rw [hB]; rfl) | (rw [hB, hc]; rfl) | simp_all)) rfl) ?_
 refine d1q (i := 71) rfl (by as_aux_lemma => kernel_rfl) (fun _ _ _ _ h => h) rfl rfl hn rfl (q_move rfl rfl) ?_
 refine d1g (i := 72) [] rfl (by as_aux_lemma => kernel_rfl) (fun _ _ _ _ h => h) (guard_some rfl rfl rfl) rfl hn rfl (fun hc => trivial) (fun hc => q_move rfl rfl) ?_
 refine d1g (i := 73) [(121, _)] rfl (by as_aux_lemma => kernel_rfl) (fun _ _ _ _ h => h) (guard_some rfl rfl rfl) rfl hn rfl (fun hc => ⟨⟨_, rfl, hc⟩, trivial⟩) (fun hc => qv_eq (tv' := .d (.bool true)) (q_eql rfl rfl rfl) rfl) ?_
 refine d1q (i := 74) rfl (by as_aux_lemma => kernel_rfl) (fun _ _ _ _ h => h) rfl rfl hn rfl (qv_eq (tv' := .d (.bool true)) (q_and rfl rfl rfl (by intro hB; first | (rw [hB]; rfl) | (rw [hB, hc]; rfl) | simp_all)) rfl) ?_
 refine d1q (i := 75) rfl (by as_aux_lemma => kernel_rfl) (fun _ _ _ _ h => h) rfl rfl hn rfl (q_move rfl rfl) ?_
 refine d1g (i := 76) [] rfl (by as_aux_lemma => kernel_rfl) (fun _ _ _ _ h => h) (guard_some rfl rfl rfl) rfl hn rfl (fun hc => trivial) (fun hc => q_move rfl rfl) ?_
 refine d1_of_d2 ?_
 refine d2_one (i := 77) (by as_aux_lemma => kernel_rfl) rfl (s_guard (guard_some rfl rfl rfl) rfl (nb hn rfl) (s_buildSlice rfl rfl rfl (nb hn rfl) Tryz.underlying57 sz3 zr3 rfl rfl rfl (show _ = [.d (.int .i64 0)] from by kernel_rfl) (by kernel_rfl) rfl rfl rfl rfl rfl)) fun _ => ?_
 refine d2_of_d1 (d1_of_d2 ?_)
 refine d2_one (i := 78) (by as_aux_lemma => kernel_rfl) rfl (s_call [(125, _), (126, _)] (fun hc => ints_ok [1] [1]) rfl (guard_some rfl rfl rfl) rfl (nb hn rfl) (fun hc => ⟨⟨_, rfl, hc⟩, ⟨_, rfl, hc⟩, trivial⟩) rfl rfl (.refl _)) fun _ => ?_
 refine d2_of_d1 ?_
 refine d1q (i := 79) rfl (by as_aux_lemma => kernel_rfl) (fun _ _ _ _ h => h) rfl rfl hn rfl (qv_eq (tv' := .d (.bool true)) (q_and rfl rfl rfl (by intro hB; first | (rw [hB]; rfl) | (rw [hB, hc]; rfl) | simp_all)) rfl) ?_
 refine d1q (i := 80) rfl (by as_aux_lemma => kernel_rfl) (fun _ _ _ _ h => h) rfl rfl hn rfl (q_move rfl rfl) ?_
 refine d1g (i := 81) [] rfl (by as_aux_lemma => kernel_rfl) (fun _ _ _ _ h => h) (guard_some rfl rfl rfl) rfl hn rfl (fun hc => trivial) (fun hc => q_move rfl rfl) ?_
 refine d1g (i := 82) [(130, _)] rfl (by as_aux_lemma => kernel_rfl) (fun _ _ _ _ h => h) (guard_some rfl rfl rfl) rfl hn rfl (fun hc => ⟨⟨_, rfl, hc⟩, trivial⟩) (fun hc => qv_eq (tv' := .d (.bool true)) (q_eql rfl rfl rfl) rfl) ?_
 refine d1q (i := 83) rfl (by as_aux_lemma => kernel_rfl) (fun _ _ _ _ h => h) rfl rfl hn rfl (qv_eq (tv' := .d (.bool true)) (q_and rfl rfl rfl (by intro hB; first | (rw [hB]; rfl) | (rw [hB, hc]; rfl) | simp_all)) rfl) ?_
 refine d1q (i := 84) rfl (by as_aux_lemma => kernel_rfl) (fun _ _ _ _ h => h) rfl rfl hn rfl (q_move rfl rfl) ?_
 refine d1g (i := 85) [] rfl (by as_aux_lemma => kernel_rfl) (fun _ _ _ _ h => h) (guard_some rfl rfl rfl) rfl hn rfl (fun hc => trivial) (fun hc => q_move rfl rfl) ?_
 refine d1g (i := 86) [(134, _)] rfl (by as_aux_lemma => kernel_rfl) (fun _ _ _ _ h => h) (guard_some rfl rfl rfl) rfl hn rfl (fun hc => ⟨⟨_, rfl, hc⟩, trivial⟩) (fun hc => qv_eq (tv' := .d (.bool true)) (q_eqlS rfl rfl rfl) rfl) ?_
 refine d1q (i := 87) rfl (by as_aux_lemma => kernel_rfl) (fun _ _ _ _ h => h) rfl rfl hn rfl (qv_eq (tv' := .d (.bool true)) (q_and rfl rfl rfl (by intro hB; first | (rw [hB]; rfl) | (rw [hB, hc]; rfl) | simp_all)) rfl) ?_
 refine d1q (i := 88) rfl (by as_aux_lemma => kernel_rfl) (fun _ _ _ _ h => h) rfl rfl hn rfl (q_move rfl rfl) ?_
 refine d1_of_d2 ?_
 refine d2_all 89 [90] (by kernel_rfl) ⟨?_, ?_, trivial⟩
 ·
  refine br rfl (s_call [] (fun hc => two_ok) rfl (guard_some rfl rfl rfl) rfl (nb hn rfl) (fun hc => trivial) rfl rfl (.refl _)) fun _ => ?_
  refine d2_of_d1 (d1_of_d2 ?_)
  refine d2_one (i := 90) (by as_aux_lemma => kernel_rfl) rfl (s_guard (guard_some rfl rfl rfl) rfl (nb hn rfl) (s_buildSlice rfl rfl rfl (nb hn rfl) Tryz.underlying57 sz3 zr3 rfl rfl rfl (show _ = [.d (.int .i64 0), .d (.int .i64 0), .d (.int .i64 0), .d (.int .i64 0)] from by kernel_rfl) (by kernel_rfl) rfl rfl rfl rfl rfl)) fun _ => ?_
  refine d2_of_d1 (d1_of_d2 ?_)
  refine d2_one (i := 91) (by as_aux_lemma => kernel_rfl) rfl (s_call [(138, _), (139, _)] (fun hc => (by have h := ProveTruth_ok twoB earlyS [306, 309, 81, 87] two_names (by decide); rw [e_prove] at h; exact h)) rfl (guard_some rfl rfl rfl) rfl (nb hn rfl) (fun hc => ⟨⟨_, rfl, hc⟩, ⟨_, rfl, hc⟩, trivial⟩) rfl rfl (.refl _)) fun _ => ?_
  refine d2_of_d1 ?_
  refine d1q (i := 92) rfl (by as_aux_lemma => kernel_rfl) (fun _ _ _ _ h => h) rfl rfl hn rfl (qv_eq (tv' := .d (.bool true)) (q_and rfl rfl rfl (by intro hB; first | (rw [hB]; rfl) | (rw [hB, hc]; rfl) | simp_all)) rfl) ?_
  refine d1q (i := 93) rfl (by as_aux_lemma => kernel_rfl) (fun _ _ _ _ h => h) rfl rfl hn rfl (q_assign rfl rfl) ?_
  refine d1_of_d2 ?_
  refine d2_done (by as_aux_lemma => kernel_rfl) ?_
  refine aend_then (awp_ret ?_)
  exact ret_E (.inl rfl) () ((hands_1 rfl (.tmp rfl)).eq (by rfl)) trivial
 ·
  refine br rfl (s_guard (guard_some rfl rfl rfl) rfl (nb hn rfl) (s_buildSlice rfl rfl rfl (nb hn rfl) Tryz.underlying57 sz3 zr3 rfl rfl rfl (show _ = [.d (.int .i64 0), .d (.int .i64 0), .d (.int .i64 0), .d (.int .i64 0)] from by kernel_rfl) (by kernel_rfl) rfl rfl rfl rfl rfl)) fun _ => ?_
  refine d2_of_d1 (d1_of_d2 ?_)
  refine d2_one (i := 89) (by kernel_rfl) rfl (s_call [] (fun hc => two_ok) rfl (guard_some rfl rfl rfl) rfl (nb hn rfl) (fun hc => trivial) rfl rfl (.refl _)) fun _ => ?_
  refine d2_of_d1 (d1_of_d2 ?_)
  refine d2_one (i := 91) (by kernel_rfl) rfl (s_call [(138, _), (139, _)] (fun hc => (by have h := ProveTruth_ok twoB earlyS [306, 309, 81, 87] two_names (by decide); rw [e_prove] at h; exact h)) rfl (guard_some rfl rfl rfl) rfl (nb hn rfl) (fun hc => ⟨⟨_, rfl, hc⟩, ⟨_, rfl, hc⟩, trivial⟩) rfl rfl (.refl _)) fun _ => ?_
  refine d2_of_d1 ?_
  refine d1q (i := 92) rfl (by kernel_rfl) (fun _ _ _ _ h => h) rfl rfl hn rfl (qv_eq (tv' := .d (.bool true)) (q_and rfl rfl rfl (by intro hB; first | (rw [hB]; rfl) | (rw [hB, hc]; rfl) | simp_all)) rfl) ?_
  refine d1q (i := 93) rfl (by kernel_rfl) (fun _ _ _ _ h => h) rfl rfl hn rfl (q_assign rfl rfl) ?_
  refine d1_of_d2 ?_
  refine d2_done (by kernel_rfl) ?_
  refine aend_then (awp_ret ?_)
  exact ret_E (.inl rfl) () ((hands_1 rfl (.tmp rfl)).eq (by rfl)) trivial
theorem awake_ok : PureAt Tryz.prog 17 [] (.bool true) := PureAt.of_eff (ds := []) awake_eff
end Go.Proofs.YtplpcamcnppibaaGreatDoor
namespace Go.Proofs.YtplpcamcnppibaaGreatDoor
open Go.RowKit
set_option maxRecDepth 20000
set_option linter.all false
theorem thin_bd {b : Brd} {n : Nat} (h : thinT b n = true) : b.stocks.length ≤ 7 ∧ n ≤ 200 := by
  unfold thinT at h
  simp only [Bool.and_eq_true, decide_eq_true_eq] at h
  omega
end Go.Proofs.YtplpcamcnppibaaGreatDoor
namespace Go.Proofs.YtplpcamcnppibaaGreatDoor
open Go.RowKit
set_option maxRecDepth 20000
set_option linter.all false
def prt0 : Prt := ⟨-1, 0, 0, 0, false, 0, 0, 0⟩
/-- The greatest of the lower bounds before k. -/
def loU (l : List Prt) : Nat → Int
  | 0 => -9999
  | k + 1 => max (loU l k) ((l.getD k prt0).minute - (l.getD k prt0).lhi)
/-- The least of j upper bounds from i on. -/
def hiV (l : List Prt) (i : Nat) : Nat → Int
  | 0 => 9999
  | j + 1 => min (hiV l i j) ((l.getD (i + j) prt0).minute - (l.getD (i + j) prt0).llo)
def timI (l : List Prt) (i : Nat) : Int × Int := (loU l (i + 1), hiV l i (l.length - i))
def timL (l : List Prt) (i : Nat) : List (Int × Int) := (List.range i).map (timI l)
def timesB (l : List Prt) : Bool := (List.range l.length).all fun i => decide ((timI l i).1 ≤ (timI l i).2)
theorem hiV_cons (l : List Prt) (i : Nat) : ∀ j, hiV l i (j + 1) = min ((l.getD i prt0).minute - (l.getD i prt0).llo) (hiV l (i + 1) j)
  | 0 => by simp only [hiV, Nat.add_zero]; omega
  | j + 1 => by
    rw [hiV, hiV_cons l i j, hiV, show i + (j + 1) = i + 1 + j by omega]
    omega
theorem minF_lo {l : List Prt} : ∀ i, i < l.length → ((minF l (-9999)).getD i (0, 0)).1 = loU l (i + 1) := by
  intro i
  induction i with
  | zero =>
    intro h
    obtain ⟨s, hs⟩ := ex_get h
    rw [getD_of (minF_get hs), if_pos rfl, loU, loU, getD_of hs]
    simp only
    omega
  | succ i ih =>
    intro h
    obtain ⟨s, hs⟩ := ex_get h
    have := ih (by omega)
    rw [getD_of (minF_get hs), if_neg (by omega), Nat.add_sub_cancel, this, show loU l (i + 1 + 1) = max (loU l (i + 1)) ((l.getD (i + 1) prt0).minute - (l.getD (i + 1) prt0).lhi) from rfl, getD_of hs]
    simp only
    omega
theorem minI_tim {b : Brd} {l : List Prt} (h : ∀ p ∈ l, PrtOK b p) : minI l = timL l l.length := by
  have key : ∀ j i, i + j + 1 = l.length → (minB (minF l (-9999)))[i]? = some (timI l i) := by
    intro j
    induction j with
    | zero =>
      intro i hi
      obtain ⟨s, hs⟩ := ex_get (show i < l.length by omega)
      have hM := minF_get (lo := -9999) hs
      have hlo := minF_lo (l := l) i (by omega)
      rw [minB_get hM, List.getElem?_eq_none (l := minB (minF l (-9999))) (by rw [minB_len, minF_len]; omega)]
      rw [getD_of hM] at hlo
      have h1 := (h s (List.mem_of_getElem? hs)).mi
      have h2 := (h s (List.mem_of_getElem? hs)).la
      unfold timI
      rw [← hlo, show l.length - i = 0 + 1 by omega, hiV, hiV, Nat.add_zero, getD_of hs]
      simp only
      congr 2
      omega
    | succ j ih =>
      intro i hi
      obtain ⟨s, hs⟩ := ex_get (show i < l.length by omega)
      have hM := minF_get (lo := -9999) hs
      have hlo := minF_lo (l := l) i (by omega)
      rw [minB_get hM, ih (i + 1) (by omega)]
      rw [getD_of hM] at hlo
      unfold timI
      rw [← hlo, show l.length - i = (l.length - (i + 1)) + 1 by omega, hiV_cons, getD_of hs]
  unfold minI timL
  apply List.ext_getElem?
  intro i
  by_cases hi : i < l.length
  · rw [key (l.length - i - 1) i (by omega), List.getElem?_map, List.getElem?_range hi]
    rfl
  · rw [List.getElem?_eq_none (by rw [minB_len, minF_len]; omega), List.getElem?_eq_none (by simp; omega)]
theorem right_tim {b : Brd} {l : List Prt} (h : ∀ p ∈ l, PrtOK b p) : rightB (minI l) = timesB l := by
  rw [minI_tim h]
  unfold rightB timL timesB
  rw [List.all_map]
  rfl
theorem timesB_good {l : List Prt} (h : ∀ k, k < l.length → (timI l k).1 ≤ (timI l k).2) : timesB l = true := by
  unfold timesB
  rw [List.all_eq_true]
  intro k hk
  simpa using h k (List.mem_range.1 hk)
theorem minutes_tim {b : Brd} {s : List UInt8} (h0 : (readI b s).2 = 0) : minutesI b s = bif timesB (readI b s).1 then (timL (readI b s).1 (readI b s).1.length, 0) else ([], 11) := by
  have hpo := (read_prts (b := b) (s := s)).1
  unfold minutesI
  rw [h0, right_tim hpo, minI_tim hpo]
  rfl
end Go.Proofs.YtplpcamcnppibaaGreatDoor
namespace Go.Proofs.YtplpcamcnppibaaGreatDoor
open Go.RowKit
set_option maxRecDepth 20000
set_option linter.all false
def refFits (p : Prt) (i : Nat) (x : Int) (o : Nat) : Bool := withinB x 1 799 && (o.testBit i || (p.full && x == p.fig || !p.full && x.tmod 80 == p.fig))
def nearB (a b m : Int) : Bool := decide (a - b ≤ m) && decide (b - a ≤ m)
/-- The last of the first k that is of a stock. -/
def aheadGo (l : List Prt) (st : Int) : Nat → Int
  | 0 => -1
  | k + 1 => bif (l.getD k prt0).stock == st then (k : Nat) else aheadGo l st k
def aheadI (l : List Prt) (i : Nat) : Int := aheadGo l (l.getD i prt0).stock i
def stk0 : Stk := ⟨[], 0, 0⟩
theorem ahead_lt {l : List Prt} {st : Int} : ∀ {i : Nat}, aheadGo l st i < (i : Nat)
  | 0 => by unfold aheadGo; omega
  | i + 1 => by
    have := ahead_lt (l := l) (st := st) (i := i)
    unfold aheadGo
    cases (l.getD i prt0).stock == st
    · simp only [cond_false]; omega
    · simp only [cond_true]; omega
theorem ahead_iff {l : List Prt} {st : Int} : ∀ {i j : Nat}, aheadGo l st i = (j : Nat) ↔ j < i ∧ (l.getD j prt0).stock = st ∧ ∀ k, j < k → k < i → (l.getD k prt0).stock ≠ st
  | 0, j => by unfold aheadGo; constructor
               · intro h; omega
               · intro h; omega
  | i + 1, j => by
    unfold aheadGo
    cases h : (l.getD i prt0).stock == st
    · rw [cond_false, ahead_iff]
      have hne : (l.getD i prt0).stock ≠ st := by simpa using h
      constructor
      · rintro ⟨h1, h2, h3⟩
        refine ⟨by omega, h2, fun k hk hk2 => ?_⟩
        by_cases e : k = i
        · subst e; exact hne
        · exact h3 k hk (by omega)
      · rintro ⟨h1, h2, h3⟩
        refine ⟨?_, h2, fun k hk hk2 => h3 k hk (by omega)⟩
        by_cases e : j = i
        · subst e; exact (hne h2).elim
        · omega
    · rw [cond_true]
      have he : (l.getD i prt0).stock = st := by simpa using h
      constructor
      · intro h
        obtain rfl : i = j := by omega
        exact ⟨by omega, he, fun k hk hk2 => by omega⟩
      · rintro ⟨h1, h2, h3⟩
        by_cases e : j = i
        · rw [e]
        · exact (h3 i (by omega) (by omega) he).elim
theorem ahead_nat {l : List Prt} {st : Int} {i : Nat} (h : 0 ≤ aheadGo l st i) : ∃ k : Nat, aheadGo l st i = (k : Nat) ∧ k < i := ⟨(aheadGo l st i).toNat, by omega, by have := ahead_lt (l := l) (st := st) (i := i); omega⟩
theorem fits_bd {p : Prt} {i : Nat} {x : Int} {o : Nat} (h : refFits p i x o = true) : 1 ≤ x ∧ x ≤ 799 := by
  unfold refFits at h
  exact within_iff.1 (Bool.and_eq_true_iff.1 h).1
end Go.Proofs.YtplpcamcnppibaaGreatDoor
namespace Go.Proofs.YtplpcamcnppibaaGreatDoor
open Go.RowKit
set_option maxRecDepth 20000
set_option linter.all false
set_option maxHeartbeats 4000000
/-- The number without a bit. -/
def clrN (o i : Nat) : Nat := (BitVec.ofInt 64 (o : Int) &&& ~~~BitVec.ofInt 64 ((2 ^ i : Nat) : Int)).toNat
theorem clr_bit {o i j : Nat} (h : o < 2 ^ 64) : (clrN o i).testBit j = (o.testBit j && decide (j ≠ i)) := by
  unfold clrN
  rw [BitVec.testBit_toNat, BitVec.getLsbD_and, BitVec.getLsbD_not]
  rw [show BitVec.ofInt 64 (o : Int) = BitVec.ofNat 64 o from BitVec.ofInt_natCast 64 o, show BitVec.ofInt 64 ((2 ^ i : Nat) : Int) = BitVec.ofNat 64 (2 ^ i) from BitVec.ofInt_natCast 64 _]
  rw [BitVec.getLsbD_ofNat, BitVec.getLsbD_ofNat, Nat.testBit_two_pow]
  by_cases hj : j < 64
  · by_cases e : j = i
    · subst e; simp [hj]
    · have e2 : ¬ i = j := fun h => e h.symm
      simp [hj, e, e2]
  · have : o.testBit j = false := Nat.testBit_lt_two_pow (Nat.lt_of_lt_of_le h (Nat.pow_le_pow_right (by decide) (by omega)))
    simp [hj, this]
theorem clr_le {o i : Nat} (h : o < 2 ^ 64) : clrN o i ≤ o := by
  unfold clrN
  rw [BitVec.toNat_and, show BitVec.ofInt 64 (o : Int) = BitVec.ofNat 64 o from BitVec.ofInt_natCast 64 o]
  refine Nat.le_trans Nat.and_le_left ?_
  rw [BitVec.toNat_ofNat]
  exact Nat.mod_le _ _
def setP (l : List Prt) (k : Nat) (x : Int) : List Prt := l.set k { l.getD k prt0 with full := true, fig := x }
theorem setP_ok {b : Brd} {l : List Prt} {k : Nat} {x : Int} (hk : k < l.length) (hx : 1 ≤ x ∧ x ≤ 799) (h : ∀ p ∈ l, PrtOK b p) : ∀ p ∈ setP l k x, PrtOK b p := fun p hp => by
  unfold setP at hp
  rcases List.mem_or_eq_of_mem_set hp with h1 | rfl
  · exact h p h1
  · obtain ⟨q, hq⟩ := ex_get hk
    rw [getD_of hq]
    have := h q (List.mem_of_getElem? hq)
    exact ⟨this.st, this.nm, by simp only; omega, this.mi, this.la⟩
theorem setP_len {l : List Prt} {k : Nat} {x : Int} : (setP l k x).length = l.length := by unfold setP; rw [List.length_set]
end Go.Proofs.YtplpcamcnppibaaGreatDoor
namespace Go.Proofs.YtplpcamcnppibaaGreatDoor
open Go.RowKit
set_option linter.all false
def stepsF (b : Brd) (l : List Prt) (j : Nat) (f : Nat → Int) : Bool := bif decide (0 ≤ aheadI l j) then nearB (f j) (f (aheadI l j).toNat) b.jump
  else withinB (f j) ((b.stocks.getD (l.getD j prt0).stock.toNat stk0).lo - b.jump) ((b.stocks.getD (l.getD j prt0).stock.toNat stk0).hi + b.jump)
def OkF (b : Brd) (l : List Prt) (o j : Nat) (f : Nat → Int) : Prop := refFits (l.getD j prt0) j (f j) o = true ∧ stepsF b l j f = true
def TruF (b : Brd) (l : List Prt) (o : Nat) (f : Nat → Int) : Prop := ∀ j, j < l.length → OkF b l o j f
theorem stepsF_congr {b : Brd} {l : List Prt} {j : Nat} {f g : Nat → Int} (h1 : f j = g j) (h2 : ∀ k : Nat, aheadI l j = (k : Nat) → f k = g k) : stepsF b l j f = stepsF b l j g := by
  unfold stepsF
  by_cases h : 0 ≤ aheadI l j
  · rw [decide_eq_true h, cond_true, cond_true, h1, h2 _ (show aheadI l j = ((aheadI l j).toNat : Nat) by omega)]
  · rw [decide_eq_false h, cond_false, cond_false, h1]
theorem OkF.congr {b : Brd} {l : List Prt} {o j : Nat} {f g : Nat → Int} (h : OkF b l o j f) (h1 : f j = g j) (h2 : ∀ k : Nat, aheadI l j = (k : Nat) → f k = g k) : OkF b l o j g := ⟨by rw [← h1]; exact h.1, by rw [← stepsF_congr h1 h2]; exact h.2⟩
theorem OkF.bd {b : Brd} {l : List Prt} {o j : Nat} {f : Nat → Int} (h : OkF b l o j f) : 1 ≤ f j ∧ f j ≤ 799 := fits_bd h.1
theorem near_iff {a b m : Int} : nearB a b m = true ↔ a - b ≤ m ∧ b - a ≤ m := by unfold nearB; simp only [Bool.and_eq_true, decide_eq_true_eq]
theorem ok_step {b : Brd} {l : List Prt} {o j k : Nat} {f : Nat → Int} (hk : aheadI l j = (k : Nat)) : OkF b l o j f ↔ refFits (l.getD j prt0) j (f j) o = true ∧ f j - f k ≤ b.jump ∧ f k - f j ≤ b.jump := by
  unfold OkF stepsF
  rw [hk, decide_eq_true (by omega), cond_true, Int.toNat_natCast, near_iff]
end Go.Proofs.YtplpcamcnppibaaGreatDoor
namespace Go.Proofs.YtplpcamcnppibaaGreatDoor
open Go.RowKit
set_option linter.all false
/-- What is left out, as bits. -/
def OutOK (l : List Prt) (out : List Int) (o : Nat) : Prop := ∀ i, i < l.length → out.contains ((i : Nat) : Int) = o.testBit i
theorem fits_out {l : List Prt} {out : List Int} {o : Nat} (h : OutOK l out o) {i : Nat} {s : Prt} {x : Int} (hs : l[i]? = some s) : refFits s i x o = (withinB x 1 799 && fitsB s (i : Nat) x out) := by
  unfold refFits fitsB
  rw [h i (List.getElem?_eq_some_iff.1 hs).1]
  cases o.testBit i <;> cases s.full <;> simp
def PreF (b : Brd) (l : List Prt) (o : Nat) (k : Int) (i : Nat) (f : Nat → Int) : Prop := ∀ j, j < i → (l.getD j prt0).stock = k → OkF b l o j f
theorem PreF.mono {b : Brd} {l : List Prt} {o : Nat} {k : Int} {i j : Nat} {f : Nat → Int} (h : PreF b l o k i f) (hj : j ≤ i) : PreF b l o k j f := fun a ha hs => h a (by omega) hs
/-- What the last sale of a stock before i can be; its Start if there is none. -/
def FwdN (b : Brd) (l : List Prt) (o : Nat) (k : Int) (st : Stk) (i : Nat) (p : Nat) : Prop := ∃ f : Nat → Int, PreF b l o k i f ∧ ((aheadGo l k i < 0 ∧ st.lo ≤ (p : Int) ∧ (p : Int) ≤ st.hi) ∨ ∃ a : Nat, aheadGo l k i = (a : Nat) ∧ f a = (p : Nat))
structure FwdI (b : Brd) (l : List Prt) (o : Nat) (k : Int) (st : Stk) (ms0 : List Nat) (i now : Nat) (ms : List Nat) : Prop where
  len : ms.length = l.length
  nw : ∀ p, p < 800 → (now.testBit p = true ↔ FwdN b l o k st i p)
  can : Can now
  lv : ∀ j, j < i → (l.getD j prt0).stock = k → ∀ p, p < 800 → ((ms.getD j 0).testBit p = true ↔ ∃ f, PreF b l o k (j + 1) f ∧ f j = (p : Nat))
  ot : ∀ j, (l.getD j prt0).stock ≠ k ∨ i ≤ j → ms.getD j 0 = ms0.getD j 0
theorem getD_set {ms : List Nat} {i j m : Nat} (h : i < ms.length) : (ms.set i m).getD j 0 = if i = j then m else ms.getD j 0 := by
  rw [List.getD_eq_getElem?_getD, List.getElem?_set]
  by_cases e : i = j
  · subst e; rw [if_pos rfl, if_pos h, if_pos rfl]; rfl
  · rw [if_neg e, if_neg e, ← List.getD_eq_getElem?_getD]
theorem ahead_next {l : List Prt} {i : Nat} {k : Int} (h : (l.getD i prt0).stock = k) : aheadGo l k (i + 1) = (i : Nat) := by
  rw [aheadGo, show ((l.getD i prt0).stock == k) = true by simpa using h]; rfl
theorem ahead_skip {l : List Prt} {i : Nat} {k : Int} (h : (l.getD i prt0).stock ≠ k) : aheadGo l k (i + 1) = aheadGo l k i := by
  rw [aheadGo, show ((l.getD i prt0).stock == k) = false by simpa using h]; rfl
theorem ok_start {b : Brd} {l : List Prt} {o j : Nat} {f : Nat → Int} {st : Stk} (hk : aheadI l j < 0) (hst : b.stocks.getD (l.getD j prt0).stock.toNat stk0 = st) : OkF b l o j f ↔ refFits (l.getD j prt0) j (f j) o = true ∧ st.lo - b.jump ≤ f j ∧ f j ≤ st.hi + b.jump := by
  unfold OkF stepsF
  rw [decide_eq_false (by omega), cond_false, hst, within_iff]
/-- One sale more, forward. -/
theorem fwd_one {b : Brd} {l : List Prt} {out : List Int} {o : Nat} {st : Stk} {k i J : Nat} {p : Nat} {s : Prt} {now : Nat} (hO : OutOK l out o) (hJ : b.jump = (J : Nat)) (hst : b.stocks[k]? = some st) (hso : 1 ≤ st.lo ∧ st.lo ≤ st.hi ∧ st.hi ≤ 799) (hs : l[i]? = some s) (hk : s.stock = (k : Int)) (hp : p < 800)
    (hn : ∀ p, p < 800 → (now.testBit p = true ↔ FwdN b l o (k : Int) st i p)) : (ownN s i out (nearN now J)).testBit p = true ↔ ∃ f, PreF b l o (k : Int) (i + 1) f ∧ f i = (p : Nat) := by
  unfold ownN
  rw [maskOf_bit, decide_eq_true hp, Bool.true_and, Bool.and_eq_true_iff, nearN_bit]
  have hg : l.getD i prt0 = s := getD_of hs
  have hai : aheadI l i = aheadGo l (k : Int) i := by unfold aheadI; rw [hg, hk]
  have hbs : b.stocks.getD (l.getD i prt0).stock.toNat stk0 = st := by rw [hg, hk, Int.toNat_natCast]; exact getD_of hst
  have hst2 : (l.getD i prt0).stock = (k : Int) := by rw [hg]; exact hk
  constructor
  · rintro ⟨⟨h1, _, p', hp', hb, hn1, hn2⟩, hf⟩
    obtain ⟨f, hpre, hc⟩ := (hn p' hp').1 hb
    have hfit : refFits s i (p : Nat) o = true := by rw [fits_out hO hs, hf, Bool.and_true]; exact within_iff.2 ⟨by omega, by omega⟩
    refine ⟨fun j => if j = i then (p : Nat) else f j, fun j hj hjs => ?_, if_pos rfl⟩
    by_cases e : j = i
    · subst e
      rcases hc with ⟨h2, h3, h4⟩ | ⟨a, ha, hfa⟩
      · refine (ok_start (by omega) hbs).2 ?_
        rw [if_pos rfl, hg]
        exact ⟨hfit, by omega, by omega⟩
      · have hlt := ahead_lt (l := l) (st := (k : Int)) (i := j)
        refine (ok_step (k := a) (by omega)).2 ?_
        rw [if_pos rfl, if_neg (by omega), hfa, hg]
        exact ⟨hfit, by omega, by omega⟩
    · refine (hpre j (by omega) hjs).congr (by (try dsimp only); rw [if_neg e]) fun a ha => ?_
      have ha' : aheadGo l (l.getD j prt0).stock j = (a : Nat) := ha
      have hlt := ahead_lt (l := l) (st := (l.getD j prt0).stock) (i := j)
      rw [if_neg (by omega)]
  · rintro ⟨f, hpre, hfi⟩
    have h0 := hpre i (by omega) hst2
    have hb0 := h0.bd
    rw [hfi] at hb0
    have hfit := h0.1
    rw [hg, hfi, fits_out hO hs, Bool.and_eq_true_iff] at hfit
    refine ⟨⟨by omega, by omega, ?_⟩, hfit.2⟩
    by_cases ha : aheadGo l (k : Int) i < 0
    · have h1 := (ok_start (by omega) hbs).1 h0
      rw [hfi] at h1
      refine ⟨(max st.lo (min st.hi (p : Int))).toNat, by omega, ?_, by omega, by omega⟩
      exact (hn _ (by omega)).2 ⟨f, hpre.mono (by omega), .inl ⟨ha, by omega, by omega⟩⟩
    · obtain ⟨a, haa, hai2⟩ := ahead_nat (l := l) (st := (k : Int)) (i := i) (by omega)
      have h1 := (ok_step (k := a) (by omega)).1 h0
      obtain ⟨_, a2, _⟩ := ahead_iff.1 haa
      have hba := (hpre a (by omega) a2).bd
      obtain ⟨q, hq⟩ : ∃ q : Nat, f a = (q : Nat) := ⟨(f a).toNat, by omega⟩
      rw [hfi, hq] at h1
      rw [hq] at hba
      exact ⟨q, by omega, (hn q (by omega)).2 ⟨f, hpre.mono (by omega), .inr ⟨a, haa, hq⟩⟩, by omega, by omega⟩
theorem FwdI.step {b : Brd} {l : List Prt} {out : List Int} {o : Nat} {st : Stk} {k i J : Nat} {s : Prt} {now : Nat} {ms0 ms : List Nat} (hO : OutOK l out o) (hJ : b.jump = (J : Nat)) (hst : b.stocks[k]? = some st) (hso : 1 ≤ st.lo ∧ st.lo ≤ st.hi ∧ st.hi ≤ 799) (hs : l[i]? = some s) (hk : s.stock = (k : Int))
    (h : FwdI b l o (k : Int) st ms0 i now ms) : FwdI b l o (k : Int) st ms0 (i + 1) (ownN s i out (nearN now J)) (ms.set i (ownN s i out (nearN now J))) := by
  have hil := (List.getElem?_eq_some_iff.1 hs).1
  have hst2 : (l.getD i prt0).stock = (k : Int) := by rw [getD_of hs]; exact hk
  have h1 := fun p (hp : p < 800) => fwd_one (p := p) hO hJ hst hso hs hk hp h.nw
  refine ⟨by rw [List.length_set]; exact h.len, fun p hp => (h1 p hp).trans ?_, can_own _ _ _ _, fun j hj hjs p hp => ?_, fun j hj => ?_⟩
  · unfold FwdN
    rw [ahead_next hst2]
    constructor
    · rintro ⟨f, hf, hfi⟩
      exact ⟨f, hf, .inr ⟨i, rfl, hfi⟩⟩
    · rintro ⟨f, hf, h2 | ⟨a, ha, hfa⟩⟩
      · omega
      · obtain rfl : i = a := by omega
        exact ⟨f, hf, hfa⟩
  · rw [getD_set (by rw [h.len]; exact hil)]
    by_cases e : i = j
    · subst e; rw [if_pos rfl]; exact h1 p hp
    · rw [if_neg e]; exact h.lv j (by omega) hjs p hp
  · rw [getD_set (by rw [h.len]; exact hil)]
    have hne : i ≠ j := by
      rintro rfl
      rcases hj with hj | hj
      · exact hj hst2
      · omega
    rw [if_neg hne]
    refine h.ot j ?_
    rcases hj with hj | hj
    · exact .inl hj
    · exact .inr (by omega)
theorem FwdI.skip {b : Brd} {l : List Prt} {o : Nat} {st : Stk} {k : Int} {i : Nat} {s : Prt} {now : Nat} {ms0 ms : List Nat} (hs : l[i]? = some s) (hk : s.stock ≠ k) (h : FwdI b l o k st ms0 i now ms) : FwdI b l o k st ms0 (i + 1) now ms := by
  have hne : (l.getD i prt0).stock ≠ k := by rw [getD_of hs]; exact hk
  refine ⟨h.len, fun p hp => (h.nw p hp).trans ?_, h.can, fun j hj hjs p hp => h.lv j ?_ hjs p hp, fun j hj => h.ot j ?_⟩
  · unfold FwdN
    rw [ahead_skip hne]
    constructor
    · rintro ⟨f, hf, hc⟩
      exact ⟨f, fun j hj hjs => hf j (by
        rcases Nat.lt_or_ge j i with h1 | h1
        · exact h1
        · obtain rfl : j = i := by omega
          exact (hne hjs).elim) hjs, hc⟩
    · rintro ⟨f, hf, hc⟩
      exact ⟨f, hf.mono (by omega), hc⟩
  · rcases Nat.lt_or_ge j i with h1 | h1
    · exact h1
    · obtain rfl : j = i := by omega
      exact (hne hjs).elim
  · rcases hj with hj | hj
    · exact .inl hj
    · exact .inr (by omega)
theorem fwd_all {b : Brd} {l : List Prt} {out : List Int} {o : Nat} {st : Stk} {k J : Nat} {ms0 : List Nat} (hO : OutOK l out o) (hJ : b.jump = (J : Nat)) (hst : b.stocks[k]? = some st) (hso : 1 ≤ st.lo ∧ st.lo ≤ st.hi ∧ st.hi ≤ 799) : ∀ (n i now : Nat) (ms : List Nat), i + n = l.length → FwdI b l o (k : Int) st ms0 i now ms →
    FwdI b l o (k : Int) st ms0 l.length (fwdGo out J k i (l.drop i) now ms).1 (fwdGo out J k i (l.drop i) now ms).2
  | 0, i, now, ms, h, hI => by
    obtain rfl : i = l.length := by omega
    rw [List.drop_length]; exact hI
  | n + 1, i, now, ms, h, hI => by
    obtain ⟨s, hs⟩ := ex_get (show i < l.length by omega)
    rw [drop_get hs, fwdGo]
    cases hk : s.stock == (k : Int)
    · exact fwd_all hO hJ hst hso n (i + 1) now ms (by omega) (hI.skip hs (by simpa using hk))
    · exact fwd_all hO hJ hst hso n (i + 1) _ _ (by omega) (hI.step hO hJ hst hso hs (by simpa using hk))
theorem fwd_start {b : Brd} {l : List Prt} {o : Nat} {st : Stk} {k : Int} {ms0 : List Nat} (hl : ms0.length = l.length) : FwdI b l o k st ms0 0 (startN st) ms0 := by
  refine ⟨hl, fun p hp => ?_, can_start _, fun j hj => by omega, fun _ _ => rfl⟩
  unfold startN FwdN
  rw [maskOf_bit, decide_eq_true hp, Bool.true_and, within_iff]
  constructor
  · intro h
    exact ⟨fun _ => 0, fun j hj => by omega, .inl ⟨by unfold aheadGo; omega, h.1, h.2⟩⟩
  · rintro ⟨f, hf, h | ⟨a, ha, _⟩⟩
    · exact ⟨h.2.1, h.2.2⟩
    · unfold aheadGo at ha; omega
theorem now_zero {b : Brd} {l : List Prt} {o : Nat} {st : Stk} {k : Int} {ms0 ms : List Nat} {now : Nat} (hso : 1 ≤ st.lo ∧ st.lo ≤ st.hi ∧ st.hi ≤ 799) (h : FwdI b l o k st ms0 l.length now ms) : (now == 0) = true ↔ ¬ ∃ f, PreF b l o k l.length f := by
  rw [beq_iff_eq]
  constructor
  · rintro rfl ⟨f, hf⟩
    by_cases ha : aheadGo l k l.length < 0
    · have := (h.nw st.lo.toNat (by omega)).2 ⟨f, hf, .inl ⟨ha, by omega, by omega⟩⟩
      rw [Nat.zero_testBit] at this; cases this
    · obtain ⟨a, haa, hal⟩ := ahead_nat (l := l) (st := k) (i := l.length) (by omega)
      obtain ⟨_, a2, _⟩ := ahead_iff.1 haa
      have hb := (hf a hal a2).bd
      have := (h.nw (f a).toNat (by omega)).2 ⟨f, hf, .inr ⟨a, haa, by omega⟩⟩
      rw [Nat.zero_testBit] at this; cases this
  · intro hne
    refine lv_eq h.can can_zero fun p hp => ?_
    rw [Nat.zero_testBit]
    cases hb : now.testBit p
    · rfl
    · obtain ⟨f, hf, _⟩ := (h.nw p hp).1 hb
      exact (hne ⟨f, hf⟩).elim
structure BwdI (b : Brd) (l : List Prt) (o : Nat) (k : Int) (ms0 : List Nat) (i now : Nat) (ms : List Nat) : Prop where
  len : ms.length = l.length
  nw : ∀ a : Nat, aheadGo l k i = (a : Nat) → ∀ p, p < 800 → (∃ f, PreF b l o k (a + 1) f ∧ f a = (p : Nat)) → (now.testBit p = true ↔ ∃ f, PreF b l o k l.length f ∧ f a = (p : Nat))
  lo : ∀ j, j < i → (l.getD j prt0).stock = k → ∀ p, p < 800 → ((ms.getD j 0).testBit p = true ↔ ∃ f, PreF b l o k (j + 1) f ∧ f j = (p : Nat))
  hi : ∀ j, i ≤ j → j < l.length → (l.getD j prt0).stock = k → ∀ p, p < 800 → ((ms.getD j 0).testBit p = true ↔ ∃ f, PreF b l o k l.length f ∧ f j = (p : Nat))
  ot : ∀ j, (l.getD j prt0).stock ≠ k → ms.getD j 0 = ms0.getD j 0
theorem bwd_start {b : Brd} {l : List Prt} {o : Nat} {st : Stk} {k : Int} {ms0 ms : List Nat} {now : Nat} (h : FwdI b l o k st ms0 l.length now ms) : BwdI b l o k ms0 l.length now ms := by
  refine ⟨h.len, fun a ha p hp _ => (h.nw p hp).trans ?_, h.lv, fun j h1 h2 => by omega, fun j hj => h.ot j (.inl hj)⟩
  unfold FwdN
  rw [ha]
  constructor
  · rintro ⟨f, hf, h2 | ⟨a', ha', hfa⟩⟩
    · omega
    · obtain rfl : a = a' := by omega
      exact ⟨f, hf, hfa⟩
  · rintro ⟨f, hf, hfa⟩
    exact ⟨f, hf, .inr ⟨a, rfl, hfa⟩⟩
theorem bwd_step {b : Brd} {l : List Prt} {o : Nat} {k : Int} {ms0 ms : List Nat} {now i J : Nat} (hJ : b.jump = (J : Nat)) (hil : i < l.length) (hk : (l.getD i prt0).stock = k) (h : BwdI b l o k ms0 (i + 1) now ms) :
    BwdI b l o k ms0 i (nearN (ms.getD i 0 &&& now) J) (ms.set i (ms.getD i 0 &&& now)) := by
  have hm : ∀ p, p < 800 → ((ms.getD i 0 &&& now).testBit p = true ↔ ∃ f, PreF b l o k l.length f ∧ f i = (p : Nat)) := fun p hp => by
    rw [Nat.testBit_and, Bool.and_eq_true_iff, h.lo i (by omega) hk p hp]
    constructor
    · rintro ⟨h1, h2⟩
      exact (h.nw i (ahead_next hk) p hp h1).1 h2
    · rintro ⟨f, hf, hfi⟩
      have h1 : ∃ f, PreF b l o k (i + 1) f ∧ f i = (p : Nat) := ⟨f, hf.mono (by omega), hfi⟩
      exact ⟨h1, (h.nw i (ahead_next hk) p hp h1).2 ⟨f, hf, hfi⟩⟩
  refine ⟨by rw [List.length_set]; exact h.len, fun a ha p hp ⟨g, hg, hga⟩ => ?_, fun j hj hjs p hp => ?_, fun j hj hjl hjs p hp => ?_, fun j hj => ?_⟩
  · obtain ⟨a1, a2, a3⟩ := ahead_iff.1 ha
    have hai : aheadI l i = (a : Nat) := by unfold aheadI; rw [hk]; exact ha
    have hbg := (hg a (by omega) a2).bd
    rw [hga] at hbg
    rw [nearN_bit]
    constructor
    · rintro ⟨h1, _, q, hq, hb, hn1, hn2⟩
      obtain ⟨f, hf, hfi⟩ := (hm q hq).1 hb
      refine ⟨fun j => if j ≤ a then g j else f j, fun j hj hjs => ?_, (if_pos (Nat.le_refl _)).trans hga⟩
      rcases Nat.lt_or_ge a j with h2 | h2
      · by_cases e : j = i
        · subst e
          refine (ok_step hai).2 ?_
          rw [if_neg (by omega), if_pos (Nat.le_refl _), hga, hfi]
          have h3 := (hf j hil hjs).1
          rw [hfi] at h3
          exact ⟨h3, by omega, by omega⟩
        · have hij : i < j := by
            rcases Nat.lt_or_ge i j with h3 | h3
            · exact h3
            · exact (a3 j h2 (by omega) hjs).elim
          refine (hf j hj hjs).congr (by (try dsimp only); rw [if_neg (by omega)]) fun c hc => ?_
          have hc' : aheadGo l (l.getD j prt0).stock j = (c : Nat) := hc
          obtain ⟨c1, c2, c3⟩ := ahead_iff.1 hc'
          have : i ≤ c := by
            rcases Nat.lt_or_ge c i with h3 | h3
            · exact (c3 i h3 hij (hk.trans hjs.symm)).elim
            · exact h3
          rw [if_neg (by omega)]
      · refine (hg j (by omega) hjs).congr (by (try dsimp only); rw [if_pos h2]) fun c hc => ?_
        have hc' : aheadGo l (l.getD j prt0).stock j = (c : Nat) := hc
        obtain ⟨c1, c2, c3⟩ := ahead_iff.1 hc'
        rw [if_pos (by omega)]
    · rintro ⟨f, hf, hfa⟩
      have h1 := hf i hil hk
      have hb1 := h1.bd
      obtain ⟨q, hq⟩ : ∃ q : Nat, f i = (q : Nat) := ⟨(f i).toNat, by omega⟩
      have h2 := (ok_step hai).1 h1
      rw [hq, hfa] at h2
      rw [hq] at hb1
      exact ⟨by omega, hp, q, by omega, (hm q (by omega)).2 ⟨f, hf, hq⟩, by omega, by omega⟩
  · rw [getD_set (by rw [h.len]; exact hil), if_neg (by omega)]
    exact h.lo j (by omega) hjs p hp
  · rw [getD_set (by rw [h.len]; exact hil)]
    by_cases e : i = j
    · subst e; rw [if_pos rfl]; exact hm p hp
    · rw [if_neg e]; exact h.hi j (by omega) hjl hjs p hp
  · rw [getD_set (by rw [h.len]; exact hil), if_neg (fun e : i = j => hj (by rw [← e]; exact hk))]
    exact h.ot j hj
theorem bwd_skip {b : Brd} {l : List Prt} {o : Nat} {k : Int} {ms0 ms : List Nat} {now i : Nat} (hk : (l.getD i prt0).stock ≠ k) (h : BwdI b l o k ms0 (i + 1) now ms) : BwdI b l o k ms0 i now ms := by
  refine ⟨h.len, fun a ha => h.nw a (by rw [ahead_skip hk]; exact ha), fun j hj => h.lo j (by omega), fun j hj hjl hjs => h.hi j ?_ hjl hjs, h.ot⟩
  rcases Nat.lt_or_ge i j with h1 | h1
  · omega
  · obtain rfl : j = i := by omega
    exact (hk hjs).elim
theorem bwd_all {b : Brd} {l : List Prt} {o : Nat} {k J : Nat} {ms0 : List Nat} (hJ : b.jump = (J : Nat)) : ∀ (i now : Nat) (ms : List Nat), i ≤ l.length → BwdI b l o (k : Int) ms0 i now ms → ∃ now2, BwdI b l o (k : Int) ms0 0 now2 (bwdGo l J k i now ms)
  | 0, now, ms, _, h => ⟨now, h⟩
  | i + 1, now, ms, hi, h => by
    rw [bwdGo]
    have e0 : (l.getD i ⟨-1, 0, 0, 0, false, 0, 0, 0⟩) = l.getD i prt0 := rfl
    rw [e0]
    cases hk : (l.getD i prt0).stock == (k : Int)
    · exact bwd_all hJ i now ms (by omega) (bwd_skip (by simpa using hk) h)
    · exact bwd_all hJ i _ _ (by omega) (bwd_step hJ (by omega) (by simpa using hk) h)
/-- The levels when the stocks before k are done. -/
structure LvlI (b : Brd) (l : List Prt) (o : Nat) (k : Nat) (ms : List Nat) : Prop where
  len : ms.length = l.length
  ex : ∀ c : Nat, c < k → ∃ f, PreF b l o (c : Int) l.length f
  lv : ∀ j, j < l.length → ∀ c : Nat, c < k → (l.getD j prt0).stock = (c : Int) → ∀ p, p < 800 → ((ms.getD j 0).testBit p = true ↔ ∃ f, PreF b l o (c : Int) l.length f ∧ f j = (p : Nat))
theorem lvl_all {b : Brd} {l : List Prt} {out : List Int} {o J : Nat} (hO : OutOK l out o) (hJ : b.jump = (J : Nat)) (v : BrdOK b) : ∀ (n k : Nat) (ms : List Nat), k + n = b.stocks.length → LvlI b l o k ms →
    (∀ r, lvlGo l out J k (b.stocks.drop k) ms = some r → LvlI b l o b.stocks.length r) ∧ (lvlGo l out J k (b.stocks.drop k) ms = none → ∃ c : Nat, c < b.stocks.length ∧ ¬ ∃ f, PreF b l o (c : Int) l.length f)
  | 0, k, ms, h, hI => by
    obtain rfl : k = b.stocks.length := by omega
    rw [List.drop_length]
    exact ⟨fun r hr => (by cases hr; exact hI), fun hr => (by cases hr)⟩
  | n + 1, k, ms, h, hI => by
    obtain ⟨st, hst⟩ := ex_get (show k < b.stocks.length by omega)
    have hs4 := stk_ok v (List.mem_of_getElem? hst)
    have hso : 1 ≤ st.lo ∧ st.lo ≤ st.hi ∧ st.hi ≤ 799 := ⟨hs4.1, hs4.2.1, hs4.2.2.1⟩
    have hf := fwd_all (ms0 := ms) hO hJ hst hso l.length 0 (startN st) ms (by omega) (fwd_start hI.len)
    rw [List.drop_zero] at hf
    have hz := now_zero hso hf
    rw [drop_get hst, lvlGo]
    cases hc : ((fwdGo out J k 0 l (startN st) ms).1 == 0)
    · rw [cond_false]
      obtain ⟨now2, hb⟩ := bwd_all hJ l.length _ _ (Nat.le_refl _) (bwd_start hf)
      refine lvl_all hO hJ v n (k + 1) _ (by omega) ⟨hb.len, fun c hck => ?_, fun j hj c hck hjs p hp => ?_⟩
      · by_cases e : c = k
        · subst e
          exact Classical.byContradiction fun hne => by rw [hz.2 hne] at hc; cases hc
        · exact hI.ex c (by omega)
      · by_cases e : c = k
        · subst e; exact hb.hi j (by omega) hj hjs p hp
        · rw [hb.ot j (by rw [hjs]; omega)]
          exact hI.lv j hj c (by omega) hjs p hp
    · rw [cond_true]
      exact ⟨fun r hr => (by cases hr), fun _ => ⟨k, by omega, hz.1 hc⟩⟩
theorem levels_iff {b : Brd} {l : List Prt} {out : List Int} {o : Nat} (hO : OutOK l out o) (v : BrdOK b) (hpo : ∀ p ∈ l, PrtOK b p) :
    ((levelsI b l out).isSome = true ↔ ∃ f, TruF b l o f) ∧ ∀ ms, levelsI b l out = some ms → ∀ i, i < l.length → ∀ p, p < 800 → ((ms.getD i 0).testBit p = true ↔ ∃ f, TruF b l o f ∧ f i = (p : Nat)) := by
  have hJ : b.jump = (b.jump.toNat : Nat) := by have := v.j0; omega
  obtain ⟨h1, h2⟩ := lvl_all (ms := List.replicate l.length 0) hO hJ v b.stocks.length 0 (by omega) ⟨by simp, fun c h => by omega, fun j _ c h => by omega⟩
  rw [List.drop_zero] at h1 h2
  have hstk : ∀ j, j < l.length → ∃ c : Nat, c < b.stocks.length ∧ (l.getD j prt0).stock = (c : Int) := fun j hj => by
    obtain ⟨p, hp⟩ := ex_get hj
    have := (hpo p (List.mem_of_getElem? hp)).st
    rw [getD_of hp]
    exact ⟨p.stock.toNat, by omega, by omega⟩
  have hall : ∀ (F : Int → Nat → Int), (∀ c : Nat, c < b.stocks.length → PreF b l o (c : Int) l.length (F (c : Int))) → TruF b l o fun j => F (l.getD j prt0).stock j := fun F hF j hj => by
    obtain ⟨c, hc, hcs⟩ := hstk j hj
    refine (hF c hc j hj hcs).congr (by (try dsimp only); rw [hcs]) fun a ha => ?_
    have ha' : aheadGo l (l.getD j prt0).stock j = (a : Nat) := ha
    obtain ⟨_, a2, _⟩ := ahead_iff.1 ha'
    (try dsimp only)
    rw [a2, hcs]
  constructor
  · constructor
    · intro h
      obtain ⟨r, hr⟩ := Option.isSome_iff_exists.1 h
      have hI := h1 r hr
      have : ∀ c : Int, ∃ f, (0 ≤ c ∧ c < b.stocks.length) → PreF b l o c l.length f := fun c => by
        by_cases hc : 0 ≤ c ∧ c < b.stocks.length
        · obtain ⟨f, hf⟩ := hI.ex c.toNat (by omega)
          exact ⟨f, fun _ => by rw [show ((c.toNat : Nat) : Int) = c by omega] at hf; exact hf⟩
        · exact ⟨fun _ => 0, fun h => (hc h).elim⟩
      refine ⟨_, hall (fun c => Classical.choose (this c)) fun c hc => Classical.choose_spec (this (c : Int)) ⟨by omega, by omega⟩⟩
    · rintro ⟨f, hf⟩
      cases hr : levelsI b l out with
      | some r => rfl
      | none =>
        obtain ⟨c, hc, hne⟩ := h2 hr
        exact (hne ⟨f, fun j hj _ => hf j hj⟩).elim
  · intro ms hms i hi p hp
    have hI := h1 ms hms
    obtain ⟨c, hc, hcs⟩ := hstk i hi
    rw [hI.lv i hi c hc hcs p hp]
    constructor
    · rintro ⟨f, hf, hfi⟩
      have : ∀ c : Int, ∃ f, (0 ≤ c ∧ c < b.stocks.length) → PreF b l o c l.length f := fun c => by
        by_cases hc : 0 ≤ c ∧ c < b.stocks.length
        · obtain ⟨f, hf⟩ := hI.ex c.toNat (by omega)
          exact ⟨f, fun _ => by rw [show ((c.toNat : Nat) : Int) = c by omega] at hf; exact hf⟩
        · exact ⟨fun _ => 0, fun h => (hc h).elim⟩
      refine ⟨_, hall (fun d => if d = (c : Int) then f else Classical.choose (this d)) fun d hd => ?_, ?_⟩
      · by_cases e : (d : Int) = (c : Int)
        · rw [if_pos e, e]; exact hf
        · rw [if_neg e]; exact Classical.choose_spec (this (d : Int)) ⟨by omega, by omega⟩
      · show (if (l.getD i prt0).stock = (c : Int) then f else _) i = _
        rw [if_pos hcs]; exact hfi
    · rintro ⟨f, hf, hfi⟩
      exact ⟨f, fun j hj _ => hf j hj, hfi⟩
end Go.Proofs.YtplpcamcnppibaaGreatDoor
namespace Go.Proofs.YtplpcamcnppibaaGreatDoor
open Go.RowKit
set_option maxRecDepth 20000
set_option linter.all false
set_option maxHeartbeats 4000000
theorem setP_stock {l : List Prt} {k j : Nat} {x : Int} : ((setP l k x).getD j prt0).stock = (l.getD j prt0).stock := by
  unfold setP
  rw [List.getD_eq_getElem?_getD, List.getElem?_set]
  by_cases e : k = j
  · subst e
    rw [if_pos rfl]
    by_cases h : k < l.length
    · rw [if_pos h]; rfl
    · rw [if_neg h, List.getD_eq_getElem?_getD, List.getElem?_eq_none (by omega)]
  · rw [if_neg e, ← List.getD_eq_getElem?_getD]
theorem ahead_setP {l : List Prt} {k : Nat} {x st : Int} : ∀ {i : Nat}, aheadGo (setP l k x) st i = aheadGo l st i
  | 0 => rfl
  | i + 1 => by unfold aheadGo; rw [setP_stock, ahead_setP]
theorem stepsF_setP {b : Brd} {l : List Prt} {k j : Nat} {x : Int} {f : Nat → Int} : stepsF b (setP l k x) j f = stepsF b l j f := by
  unfold stepsF aheadI
  rw [setP_stock, ahead_setP]
theorem tru_setP {b : Brd} {l : List Prt} {o k : Nat} {x : Int} {f : Nat → Int} (ho : o < 2 ^ 64) (hk : k < l.length) (hf : refFits (l.getD k prt0) k x o = true) : TruF b (setP l k x) (clrN o k) f ↔ TruF b l o f ∧ f k = x := by
  have hx := fits_bd hf
  have hbit : (clrN o k).testBit k = false := by rw [clr_bit ho]; simp
  have hne : ∀ j, j ≠ k → refFits ((setP l k x).getD j prt0) j (f j) (clrN o k) = refFits (l.getD j prt0) j (f j) o := fun j hj => by
    have e1 : (setP l k x).getD j prt0 = l.getD j prt0 := by
      unfold setP
      rw [List.getD_eq_getElem?_getD, List.getElem?_set, if_neg (fun e => hj e.symm), ← List.getD_eq_getElem?_getD]
    have e2 : (clrN o k).testBit j = o.testBit j := by rw [clr_bit ho]; simp [hj]
    unfold refFits
    rw [e1, e2]
  have hkk : refFits ((setP l k x).getD k prt0) k (f k) (clrN o k) = true ↔ f k = x := by
    have e1 : (setP l k x).getD k prt0 = { l.getD k prt0 with full := true, fig := x } := by
      unfold setP
      rw [List.getD_eq_getElem?_getD, List.getElem?_set, if_pos rfl, if_pos hk]; rfl
    unfold refFits
    rw [e1, hbit]
    simp only [Bool.true_and, Bool.not_true, Bool.false_and, Bool.or_false, Bool.false_or, Bool.and_eq_true_iff, beq_iff_eq, within_iff]
    constructor
    · exact fun h => h.2
    · intro h; rw [h]; exact ⟨hx, rfl⟩
  constructor
  · intro h
    have hkx := hkk.1 (h k (by rw [setP_len]; exact hk)).1
    refine ⟨fun j hj => ?_, hkx⟩
    have h1 := h j (by rw [setP_len]; exact hj)
    refine ⟨?_, by rw [← stepsF_setP (k := k) (x := x)]; exact h1.2⟩
    by_cases e : j = k
    · subst e; rw [hkx]; exact hf
    · rw [← hne j e]; exact h1.1
  · rintro ⟨h, hkx⟩ j hj
    rw [setP_len] at hj
    refine ⟨?_, by rw [stepsF_setP]; exact (h j hj).2⟩
    by_cases e : j = k
    · subst e; exact hkk.2 hkx
    · rw [hne j e]; exact (h j hj).1
theorem out_nil {l : List Prt} : OutOK l [] 0 := fun i _ => by rw [Nat.zero_testBit]; rfl
end Go.Proofs.YtplpcamcnppibaaGreatDoor
namespace Go.Proofs.YtplpcamcnppibaaGreatDoor
open Go.RowKit
set_option linter.all false
set_option maxHeartbeats 4000000
theorem dv {d : Nat} (h : d ≤ 9) : Lib.digitVal (UInt8.ofNat (48 + d)) = some d := by
  have : ∀ d : Fin 10, Lib.digitVal (UInt8.ofNat (48 + d.val)) = some d.val := by decide
  exact this ⟨d, by omega⟩
theorem dd_forms {n : Nat} (h : n < 1000) : (n < 10 ∧ Lib.decDigits n = [UInt8.ofNat (48 + n)]) ∨ (10 ≤ n ∧ n < 100 ∧ Lib.decDigits n = [UInt8.ofNat (48 + n / 10), UInt8.ofNat (48 + n % 10)]) ∨ (100 ≤ n ∧ Lib.decDigits n = [UInt8.ofNat (48 + n / 10 / 10), UInt8.ofNat (48 + n / 10 % 10), UInt8.ofNat (48 + n % 10)]) := by
  by_cases h1 : n < 10
  · exact .inl ⟨h1, dd1 h1⟩
  · by_cases h2 : n < 100
    · exact .inr (.inl ⟨by omega, h2, by rw [dd2 h1, dd1 (by omega)]; rfl⟩)
    · exact .inr (.inr ⟨by omega, by rw [dd2 h1, dd2 (m := n / 10) (by omega), dd1 (m := n / 10 / 10) (by omega)]; rfl⟩)
theorem ne48 {d : Nat} (h1 : 1 ≤ d) (h : d ≤ 9) : (UInt8.ofNat (48 + d) == 48) = false := by
  have : ∀ d : Fin 9, (UInt8.ofNat (48 + (d.val + 1)) == 48) = false := by decide
  have := this ⟨d - 1, by omega⟩
  simpa [show d - 1 + 1 = d by omega] using this
theorem dig_dd {n : Nat} (h : n < 1000) : dig (Lib.decDigits n) = some n := by
  rcases dd_forms h with ⟨h1, e⟩ | ⟨h1, h2, e⟩ | ⟨h1, e⟩ <;> rw [e] <;> unfold dig
  · show Lib.decFrom 0 [UInt8.ofNat (48 + n)] = _
    simp only [Lib.decFrom, dv (show n ≤ 9 by omega)]; congr 1; omega
  · rw [show (decide (1 ≤ [UInt8.ofNat (48 + n / 10), UInt8.ofNat (48 + n % 10)].length) && decide ([UInt8.ofNat (48 + n / 10), UInt8.ofNat (48 + n % 10)].length ≤ 3) && !(decide (1 < [UInt8.ofNat (48 + n / 10), UInt8.ofNat (48 + n % 10)].length) && [UInt8.ofNat (48 + n / 10), UInt8.ofNat (48 + n % 10)].getD 0 0 == 48)) = true by
      rw [show [UInt8.ofNat (48 + n / 10), UInt8.ofNat (48 + n % 10)].getD 0 0 = UInt8.ofNat (48 + n / 10) from rfl, ne48 (by omega) (by omega)]; rfl, cond_true]
    simp only [Lib.decFrom, dv (show n / 10 ≤ 9 by omega), dv (show n % 10 ≤ 9 by omega)]; congr 1; omega
  · rw [show (decide (1 ≤ [UInt8.ofNat (48 + n / 10 / 10), UInt8.ofNat (48 + n / 10 % 10), UInt8.ofNat (48 + n % 10)].length) && decide ([UInt8.ofNat (48 + n / 10 / 10), UInt8.ofNat (48 + n / 10 % 10), UInt8.ofNat (48 + n % 10)].length ≤ 3) && !(decide (1 < [UInt8.ofNat (48 + n / 10 / 10), UInt8.ofNat (48 + n / 10 % 10), UInt8.ofNat (48 + n % 10)].length) && [UInt8.ofNat (48 + n / 10 / 10), UInt8.ofNat (48 + n / 10 % 10), UInt8.ofNat (48 + n % 10)].getD 0 0 == 48)) = true by
      rw [show [UInt8.ofNat (48 + n / 10 / 10), UInt8.ofNat (48 + n / 10 % 10), UInt8.ofNat (48 + n % 10)].getD 0 0 = UInt8.ofNat (48 + n / 10 / 10) from rfl, ne48 (by omega) (by omega)]; rfl, cond_true]
    simp only [Lib.decFrom, dv (show n / 10 / 10 ≤ 9 by omega), dv (show n / 10 % 10 ≤ 9 by omega), dv (show n % 10 ≤ 9 by omega)]; congr 1; omega
theorem dd_len {n : Nat} (h : n < 1000) : 1 ≤ (Lib.decDigits n).length ∧ (Lib.decDigits n).length ≤ 3 := by
  have := dig_all (dig_dd h); omega
theorem dd_no {n : Nat} {x : UInt8} (hx : x.toNat < 48 ∨ 57 < x.toNat) : x ∉ Lib.decDigits n := fun hm => by have := dd_mem n x hm; omega
/-- Words of a tape. -/
inductive Wd where
  | mi (m : Nat)
  | na (k : Nat)
  | nu (n : Nat)
  | sh (x : Nat)
  | lo (p : Nat)
  | la (a c : Nat)
  | ru
def Wd.text (b : Brd) : Wd → List UInt8
  | .mi m => 64 :: Lib.decDigits m
  | .na k => (b.stocks.getD k stk0).name
  | .nu n => Lib.decDigits n ++ [115]
  | .sh x => Lib.decDigits (x / 8) ++ [46] ++ Lib.decDigits (x % 8)
  | .lo p => 36 :: (Lib.decDigits (p / 8) ++ [46] ++ Lib.decDigits (p % 8))
  | .la a c => 76 :: (Lib.decDigits a ++ 45 :: Lib.decDigits c)
  | .ru => [33]
def Wd.ok (b : Brd) : Wd → Prop
  | .mi m => m ≤ 600
  | .na k => k < b.stocks.length
  | .nu n => 1 ≤ n ∧ n ≤ 99
  | .sh x => x < 80
  | .lo p => 1 ≤ p ∧ p ≤ 799
  | .la a c => a ≤ c ∧ c ≤ 60
  | .ru => True
def Wd.can : Wd → Wrk → Prop
  | .mi m, w => w.number ≤ 0 ∧ w.minute ≤ m
  | .na _, w => w.number ≤ 0
  | .nu _, w => w.number ≤ 0
  | .sh _, w => 0 ≤ w.stock ∧ w.out.length ≠ 8
  | .lo _, w => 0 ≤ w.stock ∧ w.out.length ≠ 8
  | .la _ _, w => w.number ≤ 0
  | .ru, w => w.number ≤ 0 ∧ w.rush = false
def Wd.run (b : Brd) : Wd → Wrk → Wrk
  | .mi m, w => { w with minute := m }
  | .na k, w => { w with stock := k }
  | .nu n, w => { w with number := n }
  | .sh x, w => { w with number := 0, out := w.out ++ [⟨w.stock, (saleN w b).1, (saleN w b).2, x, false, w.minute, w.llo, w.lhi⟩] }
  | .lo p, w => { w with number := 0, out := w.out ++ [⟨w.stock, (saleN w b).1, (saleN w b).2, p, true, w.minute, w.llo, w.lhi⟩] }
  | .la a c, w => { w with llo := a, lhi := c }
  | .ru, w => { w with rush := true }
def Wd.tok (b : Brd) : Wd → Tok
  | .mi m => ⟨5, m, 0, (Wd.mi m).text b⟩
  | .na k => ⟨1, 0, 0, (Wd.na k).text b⟩
  | .nu n => ⟨2, n, 0, (Wd.nu n).text b⟩
  | .sh x => ⟨3, x, 0, (Wd.sh x).text b⟩
  | .lo p => ⟨4, p, 0, (Wd.lo p).text b⟩
  | .la a c => ⟨6, a, c, (Wd.la a c).text b⟩
  | .ru => ⟨7, 0, 0, (Wd.ru).text b⟩
theorem name_ok {b : Brd} (v : BrdOK b) {k : Nat} (hk : k < b.stocks.length) : namedB (b.stocks.getD k stk0).name = true := by
  obtain ⟨s, hs⟩ := ex_get hk
  rw [getD_of hs]
  exact (stk_ok v (List.mem_of_getElem? hs)).2.2.2
theorem nmd_all {s : List UInt8} (h : namedB s = true) : 1 ≤ s.length ∧ s.length ≤ 3 ∧ ∀ x ∈ s, 65 ≤ x.toNat ∧ x.toNat ≤ 90 := by
  unfold namedB at h
  rw [Bool.and_eq_true] at h
  have h1 := within_iff.1 h.1
  refine ⟨by omega, by omega, fun x hx => ?_⟩
  have := List.all_eq_true.1 h.2 x hx
  unfold letterB at this
  simp only [Bool.and_eq_true, decide_eq_true_eq] at this
  omega
theorem not_named {x : UInt8} {r : List UInt8} (h : x.toNat < 65 ∨ 90 < x.toNat) : namedB (x :: r) = false := by
  cases hn : namedB (x :: r) with
  | false => rfl
  | true => have := (nmd_all hn).2.2 x List.mem_cons_self; omega
theorem not_named_mem {x : UInt8} {r : List UInt8} (hx : x ∈ r) (h : x.toNat < 65 ∨ 90 < x.toNat) : namedB r = false := by
  cases hn : namedB r with
  | false => rfl
  | true => have := (nmd_all hn).2.2 x hx; omega
theorem dd_cons (n : Nat) (h : n < 1000) : ∃ x r, Lib.decDigits n = x :: r ∧ 48 ≤ x.toNat ∧ x.toNat ≤ 57 := by
  have hl := (dd_len h).1
  cases e : Lib.decDigits n with
  | nil => rw [e] at hl; simp at hl
  | cons x r => exact ⟨x, r, rfl, dd_mem n x (by rw [e]; exact List.mem_cons_self)⟩
theorem point_dd {p : Nat} (h : p < 8000) : pointD (Lib.decDigits (p / 8) ++ [46] ++ Lib.decDigits (p % 8)) = (((p / 8 : Nat) : Int), ((p % 8 : Nat) : Int), true) := by
  rw [dd1 (show p % 8 < 10 by omega), List.append_assoc]
  have := point_of (c := UInt8.ofNat (48 + p % 8)) (dig_dd (show p / 8 < 1000 by omega)) (by rw [tn (by omega)]; omega)
  rw [tn (by omega), show 48 + p % 8 - 48 = p % 8 by omega] at this
  exact this
theorem tok_ne {s : List UInt8} {x y : UInt8} {r : List UInt8} (h : s = x :: r) (hx : x ≠ y) : (s == [y]) = false := by
  subst h
  cases e : (x :: r == [y]) with
  | false => rfl
  | true => simp only [beq_iff_eq, List.cons.injEq] at e; exact (hx e.1).elim
theorem late_dd {a c : Nat} (h1 : a ≤ c) (h2 : c ≤ 60) : lateL (76 :: (Lib.decDigits a ++ 45 :: Lib.decDigits c)) = some (a, c) := by
  rw [late_eq, cut_hit (dd_no (by decide))]
  dsimp only
  rw [digI_some (dig_dd (show a < 1000 by omega)), digI_some (dig_dd (show c < 1000 by omega))]
  rw [show spansB (a : Nat) (c : Nat) 0 60 = true by unfold spansB; simp only [Bool.and_eq_true, decide_eq_true_eq]; omega]
  simp only [Bool.and_true, cond_true, Int.toNat_natCast]
theorem digit_bytes {x y : UInt8} (h : 48 ≤ x.toNat ∧ x.toNat ≤ 57) (hy : y.toNat < 48 ∨ 57 < y.toNat) : x ≠ y := fun e => by subst e; omega
theorem take_last {a : List UInt8} {x : UInt8} : (a ++ [x]).take ((a ++ [x]).length - 1) = a := by simp
theorem get_last {a : List UInt8} {x : UInt8} : (a ++ [x]).getD ((a ++ [x]).length - 1) 0 = x := by simp
theorem point_no {s : List UInt8} (h : (46 : UInt8) ∉ s) : (pointD s).2.2 = false := by
  cases hp : (pointD s).2.2 with
  | false => rfl
  | true =>
    obtain ⟨a, c, d, rfl, _⟩ := point_form hp
    exact (h (by simp)).elim
theorem tok_of {b : Brd} (v : BrdOK b) {wd : Wd} (h : wd.ok b) : refTok (wd.text b) = wd.tok b := by
  cases wd with
  | mi m =>
    have h : m ≤ 600 := h
    obtain ⟨x, r, e, hx⟩ := dd_cons m (by omega)
    show refTok (64 :: Lib.decDigits m) = ⟨5, m, 0, 64 :: Lib.decDigits m⟩
    unfold refTok
    rw [tok_ne (y := 33) rfl (by decide), tok_ne (y := 63) rfl (by decide), not_named (by decide)]
    have h3 : (pointD (64 :: Lib.decDigits m)).2.2 = false := point_no fun hm => by
      rcases List.mem_cons.1 hm with e | hm
      · revert e; decide
      · exact dd_no (by decide) hm
    rw [h3, num_head (by rw [e]; simp) (by decide)]
    simp only [List.drop_succ_cons, List.drop_zero, List.getD_cons_zero, cond_false, Option.isSome_none, Bool.false_and]
    rw [show decide (((64 :: Lib.decDigits m).length : Int) < 2) = false by rw [e]; simp only [decide_eq_false_iff_not, List.length_cons]; omega]
    rw [show ((64 : UInt8) == 36) = false from rfl, show ((64 : UInt8) == 64) = true from rfl, dig_dd (by omega)]
    simp only [Bool.and_false, Bool.false_and, cond_false, Option.isSome_some, Bool.true_and, Option.getD_some]
    rw [decide_eq_true (by omega), cond_true]
  | na k =>
    have hn := name_ok v (show k < b.stocks.length from h)
    have ha := nmd_all hn
    show refTok (b.stocks.getD k stk0).name = ⟨1, 0, 0, (b.stocks.getD k stk0).name⟩
    generalize (b.stocks.getD k stk0).name = s at *
    unfold refTok
    cases s with
    | nil => simp at ha
    | cons x r =>
      have hx := ha.2.2 x List.mem_cons_self
      rw [tok_ne (y := 33) rfl (fun e => by subst e; revert hx; decide), tok_ne (y := 63) rfl (fun e => by subst e; revert hx; decide), hn]
      simp only [cond_false, cond_true]
  | nu n =>
    obtain ⟨h1, h2⟩ : 1 ≤ n ∧ n ≤ 99 := h
    obtain ⟨x, r, e, hx⟩ := dd_cons n (by omega)
    show refTok (Lib.decDigits n ++ [115]) = ⟨2, n, 0, Lib.decDigits n ++ [115]⟩
    have e2 : Lib.decDigits n ++ [115] = x :: (r ++ [115]) := by rw [e]; rfl
    unfold refTok
    rw [tok_ne (y := 33) e2 (digit_bytes hx (by decide)), tok_ne (y := 63) e2 (digit_bytes hx (by decide)), not_named_mem (x := 115) (by simp) (by decide), take_last, get_last, dig_dd (by omega)]
    rw [show decide ((((Lib.decDigits n ++ [115] : List UInt8).length : Nat) : Int) < 2) = false by rw [e]; simp only [decide_eq_false_iff_not, List.length_append, List.length_cons]; omega]
    simp only [cond_false, Option.isSome_some, Bool.true_and, Option.getD_some]
    rw [show ((115 : UInt8) == 115) = true from rfl, within_iff.2 (show (1 : Int) ≤ (n : Nat) ∧ ((n : Nat) : Int) ≤ 99 by omega)]
    rfl
  | sh p =>
    have h : p < 80 := h
    show refTok (Lib.decDigits (p / 8) ++ [46] ++ Lib.decDigits (p % 8)) = ⟨3, p, 0, Lib.decDigits (p / 8) ++ [46] ++ Lib.decDigits (p % 8)⟩
    have hp := point_dd (p := p) (by omega)
    rw [dd1 (show p / 8 < 10 by omega), dd1 (show p % 8 < 10 by omega)] at hp ⊢
    simp only [List.cons_append, List.nil_append] at hp ⊢
    have hx : 48 ≤ (UInt8.ofNat (48 + p / 8)).toNat ∧ (UInt8.ofNat (48 + p / 8)).toNat ≤ 57 := by rw [tn (by omega)]; omega
    unfold refTok
    rw [tok_ne (y := 33) rfl (digit_bytes hx (by decide)), tok_ne (y := 63) rfl (digit_bytes hx (by decide)), not_named (by omega), hp]
    rw [show ([UInt8.ofNat (48 + p / 8), 46, UInt8.ofNat (48 + p % 8)] : List UInt8).take ([UInt8.ofNat (48 + p / 8), 46, UInt8.ofNat (48 + p % 8)].length - 1) = [UInt8.ofNat (48 + p / 8), 46] from rfl, dig_bad (x := 46) (by simp) (by decide)]
    simp only [Option.isSome_none, Bool.false_and, cond_false, Bool.true_and]
    rw [show decide ((([UInt8.ofNat (48 + p / 8), 46, UInt8.ofNat (48 + p % 8)] : List UInt8).length : Int) < 2) = false from rfl, show ((([UInt8.ofNat (48 + p / 8), 46, UInt8.ofNat (48 + p % 8)] : List UInt8).length : Int) == 3) = true from rfl]
    simp only [cond_false, cond_true]
    congr 1
    omega
  | lo p =>
    obtain ⟨h1, h2⟩ : 1 ≤ p ∧ p ≤ 799 := h
    show refTok (36 :: (Lib.decDigits (p / 8) ++ [46] ++ Lib.decDigits (p % 8))) = ⟨4, p, 0, 36 :: (Lib.decDigits (p / 8) ++ [46] ++ Lib.decDigits (p % 8))⟩
    have hp := point_dd (p := p) (by omega)
    unfold refTok
    rw [tok_ne (y := 33) rfl (by decide), tok_ne (y := 63) rfl (by decide), not_named (by decide)]
    have h3 : (pointD (36 :: (Lib.decDigits (p / 8) ++ [46] ++ Lib.decDigits (p % 8)))).2.2 = false := by
      cases h : (pointD (36 :: (Lib.decDigits (p / 8) ++ [46] ++ Lib.decDigits (p % 8)))).2.2 with
      | false => rfl
      | true => have := point_head h; revert this; decide
    rw [h3, num_head (by simp; omega) (by decide)]
    simp only [List.drop_succ_cons, List.drop_zero, List.getD_cons_zero, cond_false, Option.isSome_none, Bool.false_and]
    rw [show decide (((36 :: (Lib.decDigits (p / 8) ++ [46] ++ Lib.decDigits (p % 8))).length : Int) < 2) = false by simp only [decide_eq_false_iff_not, List.length_cons, List.length_append, List.length_nil]; omega]
    rw [hp]
    simp only [cond_false, Bool.true_and]
    have e : 8 * ((p / 8 : Nat) : Int) + ((p % 8 : Nat) : Int) = (p : Nat) := by omega
    rw [e, show ((36 : UInt8) == 36) = true from rfl, within_iff.2 (show (1 : Int) ≤ (p : Nat) ∧ ((p : Nat) : Int) ≤ 799 by omega)]
    rfl
  | la a c =>
    obtain ⟨h1, h2⟩ : a ≤ c ∧ c ≤ 60 := h
    show refTok (76 :: (Lib.decDigits a ++ 45 :: Lib.decDigits c)) = ⟨6, a, c, 76 :: (Lib.decDigits a ++ 45 :: Lib.decDigits c)⟩
    unfold refTok
    rw [tok_ne (y := 33) rfl (by decide), tok_ne (y := 63) rfl (by decide), not_named_mem (x := 45) (by simp) (by decide)]
    have h3 : (pointD (76 :: (Lib.decDigits a ++ 45 :: Lib.decDigits c))).2.2 = false := point_no fun hm => by
      rcases List.mem_cons.1 hm with e | hm
      · revert e; decide
      · rcases List.mem_append.1 hm with hm | hm
        · exact dd_no (by decide) hm
        · rcases List.mem_cons.1 hm with e | hm
          · revert e; decide
          · exact dd_no (by decide) hm
    have h4 : (pointD (Lib.decDigits a ++ 45 :: Lib.decDigits c)).2.2 = false := point_no fun hm => by
      rcases List.mem_append.1 hm with hm | hm
      · exact dd_no (by decide) hm
      · rcases List.mem_cons.1 hm with e | hm
        · revert e; decide
        · exact dd_no (by decide) hm
    rw [h3, num_head (by simp; omega) (by decide)]
    simp only [List.drop_succ_cons, List.drop_zero, List.getD_cons_zero, cond_false, Option.isSome_none, Bool.false_and]
    rw [h4, dig_bad (x := 45) (by simp) (by decide), late_dd h1 h2]
    rw [show decide (((76 :: (Lib.decDigits a ++ 45 :: Lib.decDigits c)).length : Int) < 2) = false by simp only [decide_eq_false_iff_not, List.length_cons, List.length_append]; omega]
    simp only [Option.isSome_none, Bool.false_and, cond_false]
  | ru => rfl
theorem nm_of {b : Brd} (v : BrdOK b) {k : Nat} (hk : k < b.stocks.length) : nmI b (b.stocks.getD k stk0).name = k := by
  obtain ⟨s, hs⟩ := ex_get hk
  rw [getD_of hs, nm_idx v]
  refine idxOf_hit hs ?_ (by simp)
  rw [List.all_eq_true]
  intro t ht
  obtain ⟨j, hj⟩ := List.getElem?_of_mem ht
  rw [List.getElem?_take] at hj
  split at hj
  · rename_i hjk
    cases hb : t.name == s.name with
    | false => rfl
    | true =>
      have h1 := List.all_eq_true.1 v.al t (List.mem_of_getElem? hj)
      simp only [stockB, Bool.and_eq_true, beq_iff_eq] at h1
      have e1 : (b.stocks.take (j + 1)).countP (eqN t) = (b.stocks.take j).countP (eqN t) + 1 := by rw [countP_take hj, if_pos (by simp [eqN])]
      have e2 : (b.stocks.take (k + 1)).countP (eqN t) = (b.stocks.take k).countP (eqN t) + 1 := by rw [countP_take hs, if_pos (by rw [beq_iff_eq] at hb; simp [eqN, hb])]
      have e3 : (b.stocks.take (j + 1)).countP (eqN t) ≤ (b.stocks.take k).countP (eqN t) := by
        rw [show b.stocks.take (j + 1) = (b.stocks.take k).take (j + 1) by rw [List.take_take, Nat.min_eq_left (by omega)]]
        exact (List.take_sublist _ _).countP_le
      have e4 : (b.stocks.take (k + 1)).countP (eqN t) ≤ b.stocks.countP (eqN t) := (List.take_sublist _ _).countP_le
      omega
  · cases hj
theorem wd_step {b : Brd} (v : BrdOK b) {wd : Wd} {w : Wrk} (h : wd.ok b) (hc : wd.can w) : refE w (refTok (wd.text b)) (nmI b (wd.text b)) = 0 ∧ refW b w (refTok (wd.text b)) (nmI b (wd.text b)) = wd.run b w := by
  rw [tok_of v h]
  cases wd with
  | mi m =>
    obtain ⟨c1, c2⟩ : w.number ≤ 0 ∧ w.minute ≤ m := hc
    refine ⟨?_, rfl⟩
    show (bif (false || decide (0 < w.number) || decide ((m : Int) < w.minute) || false || false) then (8 : Int) else 0) = 0
    rw [decide_eq_false (by omega), decide_eq_false (by omega)]; rfl
  | na k =>
    have c1 : w.number ≤ 0 := hc
    have hn : nmI b ((Wd.na k).text b) = k := nm_of v h
    rw [hn]
    refine ⟨?_, rfl⟩
    show (bif decide ((k : Int) < 0) then (5 : Int) else bif (false || decide (0 < w.number) || false || false || false) then 8 else 0) = 0
    rw [decide_eq_false (by omega), decide_eq_false (by omega)]; rfl
  | nu n =>
    have c1 : w.number ≤ 0 := hc
    refine ⟨?_, rfl⟩
    show (bif (false || decide (0 < w.number) || false || false || false) then (8 : Int) else 0) = 0
    rw [decide_eq_false (by omega)]; rfl
  | sh x =>
    obtain ⟨c1, c2⟩ : 0 ≤ w.stock ∧ w.out.length ≠ 8 := hc
    refine ⟨?_, rfl⟩
    show (bif (decide (w.stock < 0) || false || false || false || false) then (8 : Int) else bif ((w.out.length : Int) == 8) then 3 else 0) = 0
    rw [decide_eq_false (by omega), show ((w.out.length : Int) == 8) = false by simp; omega]; rfl
  | lo x =>
    obtain ⟨c1, c2⟩ : 0 ≤ w.stock ∧ w.out.length ≠ 8 := hc
    refine ⟨?_, rfl⟩
    show (bif (decide (w.stock < 0) || false || false || false || false) then (8 : Int) else bif ((w.out.length : Int) == 8) then 3 else 0) = 0
    rw [decide_eq_false (by omega), show ((w.out.length : Int) == 8) = false by simp; omega]; rfl
  | la a c =>
    have c1 : w.number ≤ 0 := hc
    refine ⟨?_, rfl⟩
    show (bif (false || decide (0 < w.number) || false || false || false) then (8 : Int) else 0) = 0
    rw [decide_eq_false (by omega)]; rfl
  | ru =>
    obtain ⟨c1, c2⟩ : w.number ≤ 0 ∧ w.rush = false := hc
    refine ⟨?_, rfl⟩
    show (bif (false || decide (0 < w.number) || false || w.rush || false) then (8 : Int) else 0) = 0
    rw [decide_eq_false (by omega), c2]; rfl
/-- Words that can be read from a state on. -/
def CanAll (b : Brd) : List Wd → Wrk → Prop
  | [], _ => True
  | x :: r, w => x.ok b ∧ x.can w ∧ CanAll b r (x.run b w)
def runAll (b : Brd) : List Wd → Wrk → Wrk
  | [], w => w
  | x :: r, w => runAll b r (x.run b w)
theorem runAll_app {b : Brd} {r : List Wd} : ∀ {l : List Wd} {w : Wrk}, runAll b (l ++ r) w = runAll b r (runAll b l w)
  | [], _ => rfl
  | x :: l, w => runAll_app (l := l)
theorem CanAll.app {b : Brd} {r : List Wd} : ∀ {l : List Wd} {w : Wrk}, CanAll b l w → CanAll b r (runAll b l w) → CanAll b (l ++ r) w
  | [], _, _, h => h
  | x :: l, w, ⟨h1, h2, h3⟩, h => ⟨h1, h2, CanAll.app h3 h⟩
theorem go_words {b : Brd} (v : BrdOK b) : ∀ {l : List Wd} {w : Wrk}, CanAll b l w → refGo b (l.map (Wd.text b)) w = (0, runAll b l w)
  | [], _, _ => rfl
  | x :: l, w, ⟨h1, h2, h3⟩ => by
    obtain ⟨e1, e2⟩ := wd_step v h1 h2
    rw [List.map_cons, refGo, e1, e2]
    show refGo b (l.map (Wd.text b)) (x.run b w) = _
    rw [go_words v h3]; rfl
theorem word_no {b : Brd} (v : BrdOK b) {wd : Wd} (h : wd.ok b) : (32 : UInt8) ∉ wd.text b ∧ wd.text b ≠ [] := by
  have hd : ∀ n : Nat, (32 : UInt8) ∉ Lib.decDigits n := fun n => dd_no (by decide)
  cases wd with
  | mi m => exact ⟨by simp [Wd.text, hd], by simp [Wd.text]⟩
  | na k =>
    have ha := nmd_all (name_ok v (show k < b.stocks.length from h))
    refine ⟨fun hm => ?_, fun e => ?_⟩
    · have := ha.2.2 32 hm; revert this; decide
    · have e : (b.stocks.getD k stk0).name = [] := e
      rw [e] at ha; simp at ha
  | nu n => exact ⟨by simp [Wd.text, hd], by simp [Wd.text]⟩
  | sh n => exact ⟨by simp [Wd.text, hd], by simp [Wd.text]⟩
  | lo n => exact ⟨by simp [Wd.text, hd], by simp [Wd.text]⟩
  | la a c => exact ⟨by simp [Wd.text, hd], by simp [Wd.text]⟩
  | ru => exact ⟨by simp [Wd.text], by simp [Wd.text]⟩
/-- The words with a space ahead of each. -/
def sps : List (List UInt8) → List UInt8
  | [] => []
  | x :: r => 32 :: (x ++ sps r)
theorem sps_app : ∀ {a c : List (List UInt8)}, sps (a ++ c) = sps a ++ sps c
  | [], _ => rfl
  | x :: a, c => by show 32 :: (x ++ sps (a ++ c)) = 32 :: (x ++ sps a) ++ sps c; rw [sps_app]; simp
theorem split_sps : ∀ {l : List (List UInt8)} {cur : List UInt8}, (∀ x ∈ l, (32 : UInt8) ∉ x) → splitGo (sps l) cur = cur :: l
  | [], cur, _ => rfl
  | x :: l, cur, h => by
    show (bif (32 : UInt8) == 32 then cur :: splitGo (x ++ sps l) [] else _) = _
    rw [show ((32 : UInt8) == 32) = true from rfl, cond_true, splitGo_app (h x List.mem_cons_self), List.nil_append, split_sps fun y hy => h y (List.mem_cons_of_mem _ hy)]
theorem toks_sps {x : List UInt8} {l : List (List UInt8)} (hx : (32 : UInt8) ∉ x) (hn : x ≠ [] ∨ l ≠ []) (h : ∀ y ∈ l, (32 : UInt8) ∉ y) : refToks (x ++ sps l) = x :: l := by
  unfold refToks
  have e : (x ++ sps l == []) = false := by
    rcases hn with hn | hn
    · cases x with
      | nil => exact (hn rfl).elim
      | cons a x => rfl
    · cases l with
      | nil => exact (hn rfl).elim
      | cons a l => simp [sps]
  rw [e, cond_false, splitGo_app hx, List.nil_append, split_sps h]
/-- What is read of words. -/
theorem read_words {b : Brd} (h : checkT b = 0) {x : Wd} {l : List Wd} (hc : CanAll b (x :: l) wrk0) (hlen : (x.text b ++ sps (l.map (Wd.text b))).length ≤ 160) : readI b (x.text b ++ sps (l.map (Wd.text b))) = bif decide (0 < (runAll b (x :: l) wrk0).number) then ([], 8) else ((runAll b (x :: l) wrk0).out, 0) := by
  have v := valid_of h
  have hok : ∀ (l : List Wd) (w : Wrk), CanAll b l w → ∀ y ∈ l, y.ok b := by
    intro l
    induction l with
    | nil => intro w _ y hy; cases hy
    | cons z l ih =>
      rintro w ⟨h1, h2, h3⟩ y hy
      rcases List.mem_cons.1 hy with rfl | hy
      · exact h1
      · exact ih _ h3 y hy
  have hall := hok _ _ hc
  rw [← ref_read h]
  unfold refReadI
  rw [decide_eq_false (by omega), cond_false, toks_sps (word_no v (hall x List.mem_cons_self)).1 (.inl (word_no v (hall x List.mem_cons_self)).2) (fun y hy => ?_)]
  · have := go_words v hc
    rw [List.map_cons] at this
    rw [this]
    rfl
  · obtain ⟨z, hz, rfl⟩ := List.mem_map.1 hy
    exact (word_no v (hall z (List.mem_cons_of_mem _ hz))).1
end Go.Proofs.YtplpcamcnppibaaGreatDoor
namespace Go.Proofs.YtplpcamcnppibaaGreatDoor
open Go.RowKit
set_option linter.all false
set_option maxHeartbeats 4000000
def optW (c : Bool) (x : Wd) : List Wd := bif c then [x] else []
/-- The words that sales need from a state on. -/
def need : List Sal → Int → Int → Int → List Wd
  | [], _, _, _ => []
  | s :: r, m, st, n => optW (s.minute != m) (.mi s.minute.toNat) ++ (optW (s.stock != st) (.na s.stock.toNat) ++ (optW (decide (1 < s.number) && decide (n ≤ 0)) (.nu s.number.toNat) ++ (.sh (s.price.toNat % 80) :: need r s.minute s.stock 0)))
def okAll (b : Brd) : List Sal → Int → Bool
  | [], _ => true
  | s :: r, bm => okSal b s bm && okAll b r s.minute
theorem okSal_iff {b : Brd} {s : Sal} {bm : Int} : okSal b s bm = true ↔ (0 ≤ s.stock ∧ s.stock ≤ (b.stocks.length : Int) - 1) ∧ (1 ≤ s.number ∧ s.number ≤ 99) ∧ (1 ≤ s.price ∧ s.price ≤ 799) ∧ bm ≤ s.minute ∧ s.minute ≤ 600 := by
  unfold okSal
  simp only [Bool.and_eq_true, within_iff]
  constructor
  · rintro ⟨⟨⟨h1, h2⟩, h3⟩, h4⟩; exact ⟨h1, h2, h3, h4⟩
  · rintro ⟨h1, h2, h3, h4⟩; exact ⟨⟨⟨h1, h2⟩, h3⟩, h4⟩
theorem map_optW {b : Brd} {c : Bool} {x : Wd} : (optW c x).map (Wd.text b) = bif c then [x.text b] else [] := by cases c <;> rfl
/-- The words can be read, and say the sales. -/
theorem need_run {b : Brd} (v : BrdOK b) : ∀ {l : List Sal} {w : Wrk}, okAll b l w.minute = true → 0 ≤ w.minute → w.number ≤ 0 → w.out.length + l.length ≤ 8 → w.rush = false → CanAll b (need l w.minute w.stock 0) w ∧ (runAll b (need l w.minute w.stock 0) w).out = w.out ++ l.map (fun s => (⟨s.stock, s.number, s.number, ((s.price.toNat % 80 : Nat) : Int), false, s.minute, w.llo, w.lhi⟩ : Prt)) ∧ (runAll b (need l w.minute w.stock 0) w).number ≤ 0
  | [], w, _, _, hn, _, _ => ⟨trivial, by simp [need, runAll], hn⟩
  | s :: r, w, hok, h0, hn, hl, hr => by
    unfold okAll at hok
    rw [Bool.and_eq_true] at hok
    obtain ⟨h1, h2, h3, h4⟩ := okSal_iff.1 hok.1
    simp only [List.length_cons] at hl
    have hopt : ∀ (c : Bool) (x : Wd) (w : Wrk), (c = true → x.ok b ∧ x.can w) → CanAll b (optW c x) w := fun c x w h => by
      cases c
      · trivial
      · exact ⟨(h rfl).1, (h rfl).2, trivial⟩
    -- the state after the minute and the name
    have s1 : runAll b (optW (s.minute != w.minute) (.mi s.minute.toNat)) w = { w with minute := s.minute } := by
      by_cases e : s.minute = w.minute
      · rw [show (s.minute != w.minute) = false by simpa using e, e]; rfl
      · rw [show (s.minute != w.minute) = true by simpa using e]
        show ({ w with minute := ((s.minute.toNat : Nat) : Int) } : Wrk) = _
        rw [show ((s.minute.toNat : Nat) : Int) = s.minute by omega]
    have s2 : runAll b (optW (s.stock != w.stock) (.na s.stock.toNat)) { w with minute := s.minute } = { w with minute := s.minute, stock := s.stock } := by
      by_cases e : s.stock = w.stock
      · rw [show (s.stock != w.stock) = false by simpa using e, e]; rfl
      · rw [show (s.stock != w.stock) = true by simpa using e]
        show ({ w with minute := s.minute, stock := ((s.stock.toNat : Nat) : Int) } : Wrk) = _
        rw [show ((s.stock.toNat : Nat) : Int) = s.stock by omega]
    obtain ⟨wn, s3, hwn⟩ : ∃ wn : Int, runAll b (optW (decide (1 < s.number) && decide ((0 : Int) ≤ 0)) (.nu s.number.toNat)) { w with minute := s.minute, stock := s.stock } = { w with minute := s.minute, stock := s.stock, number := wn } ∧ saleN { w with minute := s.minute, stock := s.stock, number := wn } b = (s.number, s.number) := by
      by_cases e : 1 < s.number
      · refine ⟨s.number, ?_, ?_⟩
        · rw [decide_eq_true e]
          show ({ w with minute := s.minute, stock := s.stock, number := ((s.number.toNat : Nat) : Int) } : Wrk) = _
          rw [show ((s.number.toNat : Nat) : Int) = s.number by omega]
        · unfold saleN; rw [decide_eq_true (by dsimp only; omega)]; rfl
      · refine ⟨w.number, ?_, ?_⟩
        · rw [decide_eq_false e]; rfl
        · unfold saleN
          rw [decide_eq_false (by dsimp only; omega), cond_false, show ({ w with minute := s.minute, stock := s.stock, number := w.number } : Wrk).rush = false from hr, cond_false, show s.number = 1 by omega]
    have ih := need_run v (l := r) (w := { w with minute := s.minute, stock := s.stock, number := 0, out := w.out ++ [⟨s.stock, s.number, s.number, ((s.price.toNat % 80 : Nat) : Int), false, s.minute, w.llo, w.lhi⟩] }) hok.2 (by dsimp only; omega) (by dsimp only; omega) (by simp only [List.length_append, List.length_cons, List.length_nil]; omega) hr
    dsimp only at ih
    have s4 : (Wd.sh (s.price.toNat % 80)).run b { w with minute := s.minute, stock := s.stock, number := wn } = { w with minute := s.minute, stock := s.stock, number := 0, out := w.out ++ [⟨s.stock, s.number, s.number, ((s.price.toNat % 80 : Nat) : Int), false, s.minute, w.llo, w.lhi⟩] } := by
      show ({ stock := s.stock, minute := s.minute, number := 0, llo := w.llo, lhi := w.lhi, rush := w.rush, out := w.out ++ [⟨s.stock, (saleN { w with minute := s.minute, stock := s.stock, number := wn } b).1, (saleN { w with minute := s.minute, stock := s.stock, number := wn } b).2, ((s.price.toNat % 80 : Nat) : Int), false, s.minute, w.llo, w.lhi⟩] } : Wrk) = _
      rw [hwn]
    unfold need
    refine ⟨?_, ?_, ?_⟩
    · refine CanAll.app (hopt _ _ _ fun hc => ⟨show s.minute.toNat ≤ 600 by omega, show w.number ≤ 0 ∧ w.minute ≤ ((s.minute.toNat : Nat) : Int) by omega⟩) ?_
      rw [s1]
      refine CanAll.app (hopt _ _ _ fun hc => ⟨show s.stock.toNat < b.stocks.length by omega, show w.number ≤ 0 from hn⟩) ?_
      rw [s2]
      refine CanAll.app (hopt _ _ _ fun hc => ⟨show 1 ≤ s.number.toNat ∧ s.number.toNat ≤ 99 by omega, show w.number ≤ 0 from hn⟩) ?_
      rw [s3]
      refine ⟨show s.price.toNat % 80 < 80 by omega, show 0 ≤ s.stock ∧ w.out.length ≠ 8 by omega, ?_⟩
      rw [s4]; exact ih.1
    · rw [runAll_app, s1, runAll_app, s2, runAll_app, s3, runAll, s4, ih.2.1]
      simp
    · rw [runAll_app, s1, runAll_app, s2, runAll_app, s3, runAll, s4]
      exact ih.2.2
theorem text_len {b : Brd} (v : BrdOK b) {wd : Wd} (h : wd.ok b) : (wd.text b).length ≤ 6 := by
  cases wd with
  | mi m => have := dd_len (show m < 1000 by have : m ≤ 600 := h; omega); simp only [Wd.text, List.length_cons]; omega
  | na k => have := nmd_all (name_ok v (show k < b.stocks.length from h)); show (b.stocks.getD k stk0).name.length ≤ 6; omega
  | nu n => have := dd_len (show n < 1000 by have : 1 ≤ n ∧ n ≤ 99 := h; omega); simp only [Wd.text, List.length_append, List.length_cons, List.length_nil]; omega
  | sh x =>
    have h : x < 80 := h
    have h1 := dd1 (show x / 8 < 10 by omega)
    have h2 := dd1 (show x % 8 < 10 by omega)
    simp only [Wd.text, h1, h2, List.length_append, List.length_cons, List.length_nil]; omega
  | lo p =>
    have h : 1 ≤ p ∧ p ≤ 799 := h
    have h1 := dd_len2 (show p / 8 < 100 by omega)
    have h2 := dd1 (show p % 8 < 10 by omega)
    simp only [Wd.text, h2, List.length_append, List.length_cons, List.length_nil]; omega
  | la a c =>
    have h : a ≤ c ∧ c ≤ 60 := h
    have h1 := dd_len2 (show a < 100 by omega)
    have h2 := dd_len2 (show c < 100 by omega)
    simp only [Wd.text, List.length_append, List.length_cons, List.length_nil]; omega
  | ru => simp [Wd.text]
theorem nu_len {n : Nat} (h : n ≤ 99) : (Lib.decDigits n ++ [115]).length ≤ 3 := by
  have := dd_len2 (show n < 100 by omega); simp; omega
theorem mi_len {m : Nat} (h : m ≤ 600) : (64 :: Lib.decDigits m).length ≤ 4 := by
  have := dd_len (show m < 1000 by omega); simp; omega
theorem sh_len {b : Brd} {x : Nat} (h : x < 80) : ((Wd.sh x).text b).length = 3 := by
  simp only [Wd.text, dd1 (show x / 8 < 10 by omega), dd1 (show x % 8 < 10 by omega)]; rfl
theorem need_len {b : Brd} (v : BrdOK b) : ∀ {l : List Sal} {bm st : Int}, okAll b l bm = true → 0 ≤ bm → (sps ((need l bm st 0).map (Wd.text b))).length ≤ 17 * l.length
  | [], _, _, _, _ => by simp [need, sps]
  | s :: r, bm, st, h, h0 => by
    unfold okAll at h
    rw [Bool.and_eq_true] at h
    obtain ⟨h1, h2, h3, h4⟩ := okSal_iff.1 h.1
    have ih := need_len v (st := s.stock) h.2 (by omega)
    unfold need
    rw [List.map_append, List.map_append, List.map_append, List.map_cons, map_optW, map_optW, map_optW, sps_app, sps_app, sps_app]
    have l1 : (sps (bif s.minute != bm then [(Wd.mi s.minute.toNat).text b] else [])).length ≤ 5 := by
      cases s.minute != bm
      · simp [sps]
      · have := mi_len (m := s.minute.toNat) (by omega)
        simp only [cond_true, sps, Wd.text, List.length_cons, List.length_append, List.length_nil] at this ⊢; omega
    have l2 : (sps (bif s.stock != st then [(Wd.na s.stock.toNat).text b] else [])).length ≤ 4 := by
      cases s.stock != st
      · simp [sps]
      · have := nmd_all (name_ok v (show s.stock.toNat < b.stocks.length by omega))
        simp only [cond_true, sps, Wd.text, List.length_cons, List.length_append, List.length_nil] at this ⊢; omega
    have l3 : (sps (bif decide (1 < s.number) && decide ((0 : Int) ≤ 0) then [(Wd.nu s.number.toNat).text b] else [])).length ≤ 4 := by
      cases decide (1 < s.number) && decide ((0 : Int) ≤ 0)
      · simp [sps]
      · have := nu_len (n := s.number.toNat) (by omega)
        simp only [cond_true, sps, Wd.text, List.length_cons, List.length_append, List.length_nil] at this ⊢; omega
    have l4 := sh_len (b := b) (x := s.price.toNat % 80) (by omega)
    simp only [List.length_append, sps, List.length_cons]
    omega
def spsW (b : Brd) (l : List Wd) : List UInt8 := sps (l.map (Wd.text b))
theorem spsW_cons {b : Brd} {x : Wd} {l : List Wd} : spsW b (x :: l) = 32 :: (x.text b ++ spsW b l) := rfl
end Go.Proofs.YtplpcamcnppibaaGreatDoor
namespace Go.Proofs.YtplpcamcnppibaaGreatDoor
open Go.RowKit
set_option linter.all false
set_option maxHeartbeats 4000000
theorem bndGo_is {m : Nat} : ∀ n, n ≤ 800 → ((∀ q, q < n → m.testBit q = false) ∧ bndGo m n = (799, 0)) ∨ ∃ lo hi : Nat, bndGo m n = ((lo : Int), (hi : Int)) ∧ lo < n ∧ hi < n ∧ m.testBit lo = true ∧ m.testBit hi = true ∧ ∀ q, q < n → m.testBit q = true → lo ≤ q ∧ q ≤ hi
  | 0, _ => .inl ⟨fun q h => by omega, rfl⟩
  | n + 1, hn => by
    have ih := bndGo_is (m := m) n (by omega)
    cases hb : m.testBit n with
    | false =>
      have e : bndGo m (n + 1) = bndGo m n := by rw [bndGo, hb]; rfl
      rw [e]
      rcases ih with ⟨h1, h2⟩ | ⟨lo, hi, h1, h2, h3, h4, h5, h6⟩
      · refine .inl ⟨fun q hq => ?_, h2⟩
        by_cases e : q = n
        · subst e; exact hb
        · exact h1 q (by omega)
      · refine .inr ⟨lo, hi, h1, by omega, by omega, h4, h5, fun q hq hqb => ?_⟩
        by_cases e : q = n
        · subst e; rw [hb] at hqb; cases hqb
        · exact h6 q (by omega) hqb
    | true =>
      have e : bndGo m (n + 1) = (min (bndGo m n).1 (n : Nat), max (bndGo m n).2 (n : Nat)) := by rw [bndGo, hb]; rfl
      rw [e]
      rcases ih with ⟨h1, h2⟩ | ⟨lo, hi, h1, h2, h3, h4, h5, h6⟩
      · rw [h2]
        refine .inr ⟨n, n, by simp only [Prod.mk.injEq]; omega, by omega, by omega, hb, hb, fun q hq hqb => ?_⟩
        by_cases e : q = n
        · omega
        · rw [h1 q (by omega)] at hqb; cases hqb
      · rw [h1]
        refine .inr ⟨lo, n, by simp only [Prod.mk.injEq]; omega, by omega, by omega, h4, hb, fun q hq hqb => ?_⟩
        by_cases e : q = n
        · omega
        · have := h6 q (by omega) hqb; omega
/-- The bounds of a level that is not empty. -/
theorem bnd_is {m q0 : Nat} (h : m.testBit q0 = true) (h0 : q0 < 800) : ∃ lo hi : Nat, bndN m = ((lo : Int), (hi : Int)) ∧ lo < 800 ∧ hi < 800 ∧ m.testBit lo = true ∧ m.testBit hi = true ∧ ∀ q, q < 800 → m.testBit q = true → lo ≤ q ∧ q ≤ hi := by
  rcases bndGo_is (m := m) 800 (Nat.le_refl _) with ⟨h1, _⟩ | h1
  · rw [h1 q0 h0] at h; cases h
  · exact h1
theorem tru_pos {b : Brd} {l : List Prt} {o : Nat} {f : Nat → Int} (h : TruF b l o f) {i : Nat} (hi : i < l.length) : ∃ p : Nat, f i = (p : Nat) ∧ 1 ≤ p ∧ p ≤ 799 := by
  have := (h i hi).bd
  exact ⟨(f i).toNat, by omega, by omega, by omega⟩
/-- The bounds of a sale: the least and the greatest price of truths. -/
theorem lvl_bnd {b : Brd} {l : List Prt} {out : List Int} {o : Nat} {ms : List Nat} (hO : OutOK l out o) (v : BrdOK b) (hpo : ∀ p ∈ l, PrtOK b p) (hms : levelsI b l out = some ms) {i : Nat} (hi : i < l.length) :
    ∃ lo hi : Nat, bndN (ms.getD i 0) = ((lo : Int), (hi : Int)) ∧ (∃ f, TruF b l o f ∧ f i = (lo : Nat)) ∧ (∃ f, TruF b l o f ∧ f i = (hi : Nat)) ∧ ∀ f, TruF b l o f → (lo : Int) ≤ f i ∧ f i ≤ (hi : Int) := by
  obtain ⟨h1, h2⟩ := levels_iff hO v hpo
  obtain ⟨f0, hf0⟩ := h1.1 (by rw [hms]; rfl)
  obtain ⟨p0, e0, p1, p2⟩ := tru_pos hf0 hi
  have hb0 := (h2 ms hms i hi p0 (by omega)).2 ⟨f0, hf0, e0⟩
  obtain ⟨lo, hi2, g1, g2, g3, g4, g5, g6⟩ := bnd_is hb0 (by omega)
  refine ⟨lo, hi2, g1, (h2 ms hms i hi lo g2).1 g4, (h2 ms hms i hi hi2 g3).1 g5, fun f hf => ?_⟩
  obtain ⟨p, e, q1, q2⟩ := tru_pos hf hi
  have := g6 p (by omega) ((h2 ms hms i hi p (by omega)).2 ⟨f, hf, e⟩)
  omega
def showP (b : Brd) (l : List Prt) (k : Nat) (hi : Bool) : Int := bif hi then (bndN (((levelsI b l []).getD []).getD k 0)).2 else (bndN (((levelsI b l []).getD []).getD k 0)).1
theorem clr_zero {k : Nat} : clrN 0 k = 0 := by have := clr_le (o := 0) (i := k) (by decide); omega
theorem tru_set0 {b : Brd} {l : List Prt} {k : Nat} {x : Int} {f : Nat → Int} (hk : k < l.length) (hex : ∃ g, TruF b l 0 g ∧ g k = x) : TruF b (setP l k x) 0 f ↔ TruF b l 0 f ∧ f k = x := by
  obtain ⟨g, hg, hgk⟩ := hex
  have := tru_setP (b := b) (l := l) (o := 0) (k := k) (x := x) (f := f) (by decide) hk (by rw [← hgk]; exact (hg k hk).1)
  rwa [clr_zero] at this
/-- The levels are there as the search goes on. -/
structure ShInv (b : Brd) (X : List Prt) : Prop where
  po : ∀ p ∈ X, PrtOK b p
  ex : ∃ f, TruF b X 0 f
theorem ShInv.first {b : Brd} {l : List Prt} {ms : List Nat} (v : BrdOK b) (hpo : ∀ p ∈ l, PrtOK b p) (hms : levelsI b l [] = some ms) {k : Nat} (hi : Bool) (hk : k < l.length) : ShInv b (setP l k (showP b l k hi)) := by
  obtain ⟨lo, hi2, e, ⟨f1, hf1, hf1k⟩, ⟨f2, hf2, hf2k⟩, _⟩ := lvl_bnd out_nil v hpo hms hk
  have b1 := (hf1 _ hk).bd
  have b2 := (hf2 _ hk).bd
  unfold showP
  rw [hms, Option.getD_some, e]
  cases hi
  · exact ⟨setP_ok hk (by simp only [cond_false]; omega) hpo, f1, (tru_set0 hk ⟨f1, hf1, hf1k⟩).2 ⟨hf1, hf1k⟩⟩
  · exact ⟨setP_ok hk (by simp only [cond_true]; omega) hpo, f2, (tru_set0 hk ⟨f2, hf2, hf2k⟩).2 ⟨hf2, hf2k⟩⟩
end Go.Proofs.YtplpcamcnppibaaGreatDoor
namespace Go.Proofs.YtplpcamcnppibaaGreatDoor
open Go.RowKit
set_option maxRecDepth 20000
set_option linter.all false
set_option maxHeartbeats 4000000
theorem u8n {n : Nat} (h : n < 256) : IntKind.u8.wrap ((n : Nat) : Int) = ((UInt8.ofNat n).toNat : Int) := by
  rw [tn h]
  simp only [IntKind.wrap, IntKind.bits, IntKind.signed]
  simp
  omega
/-- What is still to be written of a number. -/
def restD (c : Bool) (m : Nat) : List UInt8 := bif c || decide (0 < m) then Lib.decDigits m else []
theorem rest_step {c : Bool} {m : Nat} {a : List UInt8} (h : (c || decide (0 < m)) = true) : restD false (m / 10) ++ ([UInt8.ofNat (48 + m % 10)] ++ a) = restD c m ++ a := by
  unfold restD
  rw [h, cond_true, Bool.false_or]
  by_cases h1 : m < 10
  · rw [dd1 h1, decide_eq_false (by omega), Nat.mod_eq_of_lt h1]; rfl
  · rw [dd2 h1, decide_eq_true (by omega)]; simp
theorem rest_len {c : Bool} {m n : Nat} {a : List UInt8} (h : restD c m ++ a = Lib.decDigits n) (hn : n < 1000) : a.length ≤ 3 := by
  have := congrArg List.length h
  have h2 := dd_len hn
  rw [List.length_append] at this
  omega
def bmAt (l : List Sal) (i : Nat) : Int := match i with
  | 0 => 0
  | j + 1 => (l.getD j sal0).minute
theorem okAll_at {b : Brd} {l : List Sal} {i : Nat} {s : Sal} (hs : l[i]? = some s) : okAll b (l.drop i) (bmAt l i) = (okSal b s (bmAt l i) && okAll b (l.drop (i + 1)) (bmAt l (i + 1))) := by
  rw [drop_get hs, okAll]
  show _ = (okSal b s (bmAt l i) && okAll b (l.drop (i + 1)) (l.getD i sal0).minute)
  rw [getD_of hs]
theorem spsW_o {b : Brd} {c : Bool} {x : Wd} : spsW b (optW c x) = bif c then 32 :: x.text b else [] := by
  cases c
  · rfl
  · show 32 :: (x.text b ++ []) = _; simp
theorem spsW_app {b : Brd} {x y : List Wd} : spsW b (x ++ y) = spsW b x ++ spsW b y := by unfold spsW; rw [List.map_append, sps_app]
theorem zr5 : (Tryz.prog.info? 5).map (·.zero) = some (some (.int .u8 0)) := by kernel_rfl
theorem zr91 : (Tryz.prog.info? 91).map (·.zero) = some (some (.agg #[(.int .i64 0), (.int .i64 0), (.int .i64 0), (.int .i64 0)])) := by kernel_rfl
theorem Text_ok (n : Nat) (h : n < 1000) : PureAt Tryz.prog 52 [.int .i64 (n : Nat)] (strD (Lib.decDigits n)) := by
 refine PureAt.of_awp Tryz.func52 rfl (by kernel_rfl) (Nat.le_of_ble_eq_true rfl) fun Γ hn hl => ?_
 refine awp_seq (awp_region ?_)
 refine sq rfl rfl hn rfl (q_assign rfl rfl) ?_
 refine run_nil (aend_then (awp_seq (awp_region ?_)))
 refine sq rfl rfl hn rfl (q_assign rfl rfl) ?_
 refine run_nil (aend_then (awp_seq (awp_seq (awp_region ?_))))
 refine sq rfl rfl hn rfl (q_assign rfl rfl) ?_
 refine run_nil (aend_then (awp_block ?_))
 refine awp_loop_on (ι := {x : Bool × Nat × List UInt8 // x.2.1 ≤ n ∧ restD x.1 x.2.1 ++ x.2.2 = Lib.decDigits n}) (fun x => (0, true, .d (.int .i64 (x.1.2.1 : Nat))) :: (3, true, .d (strD x.1.2.2)) :: (4, true, .d (.bool x.1.1)) :: anys [5, 6, 7, 8, 9, 10, 11, 12, 13, 14, 15, 16, 17, 18, 19]) (fun x => []) (fun x => x.1.2.1 + (bif x.1.1 then 1 else 0)) ⟨(true, n, []), Nat.le_refl _, by simp [restD]⟩ ⟨.inl rfl, .inl rfl, .inl rfl, holdT_anys _⟩ trivial ?_
 rintro ⟨⟨c, m, a⟩, hm, ha⟩
 dsimp only
 dsimp only at hm ha
 have hal := rest_len ha h
 refine awp_seq (awp_seq (awp_region ?_))
 refine sq rfl rfl hn rfl (q_move rfl rfl) ?_
 refine sq rfl rfl hn rfl (q_move rfl rfl) ?_
 refine stepG [] (guard_some rfl rfl rfl) rfl (nb hn rfl) (fun hc => trivial) (fun hc => q_move rfl rfl) ?_
 refine stepG [(7, _)] (guard_some rfl rfl rfl) rfl (nb hn rfl) (fun hc => ⟨⟨_, rfl, hc⟩, trivial⟩) (fun hc => q_gtr rfl rfl rfl) ?_
 refine sq rfl rfl hn rfl (q_or rfl rfl rfl (by intro hB; first | (rw [hB]; rfl) | (rw [hB, hc]; rfl) | simp_all)) ?_
 refine run_nil (aend_then ?_)
 refine awp_cond rfl (fun hb0 => ?_) (fun hb0 => ?_)
 ·
  have hcc : (c || decide (0 < m)) = true := by simpa using hb0
  refine awp_skip (aend_then (awp_seq (awp_block (awp_seq (awp_region ?_)))))
  refine sq rfl rfl hn rfl (q_move rfl rfl) ?_
  refine sq rfl rfl hn rfl (q_rem rfl rfl rfl (r := ((m % 10 : Nat) : Int)) (by omega) (modN (a := m) (b := 10) (by omega))) ?_
  refine sq rfl rfl hn rfl (q_add rfl rfl rfl (r := ((48 + m % 10 : Nat) : Int)) (i64w (by omega) (by omega))) ?_
  refine sq rfl rfl hn rfl (q_conv rfl rfl Tryz.underlying3 Tryz.underlying5 (r := (((UInt8.ofNat (48 + m % 10)).toNat : Nat) : Int)) (u8n (by omega))) ?_
  refine stepW (s_buildSlice rfl rfl rfl (nb hn rfl) Tryz.underlying167 sz5 zr5 rfl rfl rfl (show _ = [.d (.int .u8 0)] from by kernel_rfl) (by kernel_rfl) rfl fill_nat1 rfl rfl rfl) fun _ => ?_
  refine sq rfl rfl hn rfl (q_strOf (l := [UInt8.ofNat (48 + m % 10)]) rfl rfl Tryz.underlying167 Tryz.underlying5 Tryz.underlying9 (by simp) seesF0) ?_
  refine sq rfl rfl hn rfl (q_move rfl rfl) ?_
  refine sq rfl rfl hn rfl (q_addS rfl rfl rfl (by simp only [List.length_append, List.length_cons, List.length_nil]; omega) rfl) ?_
  refine sq rfl rfl hn rfl (q_assign rfl rfl) ?_
  refine run_nil (aend_then (awp_region ?_))
  refine sq rfl rfl hn rfl (q_move rfl rfl) ?_
  refine sq rfl rfl hn rfl (q_quo rfl rfl rfl (r := ((m / 10 : Nat) : Int)) (by omega) (quoN (a := m) (b := 10) (by omega) (by omega))) ?_
  refine sq rfl rfl hn rfl (q_assign rfl rfl) ?_
  refine run_nil (aend_block (aend_then (awp_region ?_)))
  refine sq rfl rfl hn rfl (q_assign rfl rfl) ?_
  refine run_nil ?_
  exact aend_round_on ⟨(false, m / 10, [UInt8.ofNat (48 + m % 10)] ++ a), by simp only; omega, by simp only; rw [rest_step hcc, ha]⟩ ⟨.inl rfl, .inl rfl, .inl rfl, holdT_anys _⟩ trivial (by cases c <;> simp at hcc ⊢ <;> omega) (by repeat (first | exact kr _ | refine kc rfl ?_)) (by repeat (first | exact kr _ | refine kc rfl ?_))
 ·
  have hcc : (c || decide (0 < m)) = false := by simpa using hb0
  have e1 : a = Lib.decDigits n := by rw [← ha]; unfold restD; rw [hcc]; rfl
  rw [← e1]
  refine awp_exit (aend_then_exit (aend_then_exit (aend_block_exit (aend_then (awp_seq (awp_region ?_))))))
  refine sq rfl rfl hn rfl (q_move rfl rfl) ?_
  refine sq rfl rfl hn rfl (q_assign rfl rfl) ?_
  refine run_nil (aend_then (awp_ret ?_))
  exact ret_1 (.inl rfl) hl rfl (.tmp rfl)
end Go.Proofs.YtplpcamcnppibaaGreatDoor
namespace Go.Proofs.YtplpcamcnppibaaGreatDoor
open Go.RowKit
set_option maxRecDepth 20000
set_option linter.all false
set_option maxHeartbeats 4000000
@[reducible] def w16E (n : Int) : List D := [.int .u16 n]
@[reducible] def wdsD (l : List Int) : D := .slice 1 (l.map w16E)
def WdsOK (ws : List Int) : Prop := ws.length ≤ 140737488355328 ∧ ∀ x ∈ ws, 0 ≤ x ∧ x ≤ 65535
/-- One of some words. -/
def wrd (ws : List Int) (i : Nat) : Nat := (ws.getD (i % ws.length) 0).toNat
theorem wrd_lt {ws : List Int} (h : WdsOK ws) (i : Nat) : wrd ws i ≤ 65535 := by
  unfold wrd
  by_cases hl : ws.length = 0
  · rw [List.eq_nil_of_length_eq_zero hl]; simp
  · obtain ⟨x, hx⟩ := ex_get (show i % ws.length < ws.length from Nat.mod_lt _ (by omega))
    rw [getD_of hx]
    have := h.2 x (List.mem_of_getElem? hx); omega
theorem ints_get {l : List Int} {k : Nat} {x : Int} (h : l[k]? = some x) : (intsT l)[0 + k * 1]? = some (.d (.int .i64 x)) := by rw [Nat.zero_add, Nat.mul_one, List.getElem?_map, h]; rfl
theorem ints_set {l : List Int} {k : Nat} {x : Int} : (intsT l).set (0 + k * 1) (.d (.int .i64 x)) = intsT (l.set k x) := by rw [Nat.zero_add, Nat.mul_one, ← List.map_set]
theorem ints_len {l : List Int} : (intsT l).length = l.length := List.length_map _
theorem ints_zero (n : Nat) : (List.replicate n [TV.d (D.int .i64 0)]).flatten = intsT (List.replicate n 0) := by
  induction n with
  | zero => rfl
  | succ n ih => rw [List.replicate_succ, List.flatten_cons, ih]; rfl
/-- The prices before the first sale. -/
def sd (b : Brd) (i : Nat) : Nat := ((b.stocks.getD i stk0).hi - (b.stocks.getD i stk0).lo + 1).toNat
def st0 (b : Brd) (ws : List Int) (i : Nat) : Int := (b.stocks.getD i stk0).lo + ((wrd ws i % sd b i : Nat) : Int)
def now0 (b : Brd) (ws : List Int) (i : Nat) : List Int := (List.range i).map (st0 b ws) ++ List.replicate (b.stocks.length - i) 0
theorem now0_len {b : Brd} {ws : List Int} {i : Nat} (h : i ≤ b.stocks.length) : (now0 b ws i).length = b.stocks.length := by unfold now0; simp; omega
theorem now0_set {b : Brd} {ws : List Int} {i : Nat} (h : i < b.stocks.length) : (now0 b ws i).set i (st0 b ws i) = now0 b ws (i + 1) := by
  unfold now0
  rw [List.set_append_right _ _ (by simp), List.length_map, List.length_range, Nat.sub_self, show b.stocks.length - i = (b.stocks.length - (i + 1)) + 1 by omega, List.replicate_succ, List.set_cons_zero, List.range_succ]
  simp
structure SoS where
  now : List Int
  minute : Nat
  out : List Sal
def soK (b : Brd) (ws : List Int) (i : Nat) : Nat := wrd ws (2 * i + 6) / 8 % b.stocks.length
def soP (b : Brd) (ws : List Int) (i : Nat) (now : List Int) : Int := max 1 (min 799 (now.getD (soK b ws i) 0 + (wrd ws (2 * i + 7) : Int).tmod (2 * b.jump + 1) - b.jump))
def soM (ws : List Int) (i m : Nat) : Nat := min 600 (m + wrd ws (2 * i + 7) / 128 % 4)
def soN (ws : List Int) (i : Nat) : Int := bif wrd ws (2 * i + 6) % 4 == 0 then ((1 + wrd ws (2 * i + 6) / 64 % 99 : Nat) : Int) else 1
def soldN (b : Brd) (ws : List Int) : Nat → SoS
  | 0 => ⟨now0 b ws b.stocks.length, 0, []⟩
  | i + 1 => ⟨(soldN b ws i).now.set (soK b ws i) (soP b ws i (soldN b ws i).now), soM ws i (soldN b ws i).minute, (soldN b ws i).out ++ [⟨(soK b ws i : Nat), soN ws i, soP b ws i (soldN b ws i).now, (soM ws i (soldN b ws i).minute : Nat)⟩]⟩
def soldL (b : Brd) (ws : List Int) : List Sal := (soldN b ws (wrd ws 5 % 8)).out
theorem st0_bd {b : Brd} {ws : List Int} (v : BrdOK b) {i : Nat} (hi : i < b.stocks.length) : (b.stocks.getD i stk0).lo ≤ st0 b ws i ∧ st0 b ws i ≤ (b.stocks.getD i stk0).hi ∧ 1 ≤ (b.stocks.getD i stk0).lo ∧ (b.stocks.getD i stk0).hi ≤ 799 ∧ (b.stocks.getD i stk0).hi - (b.stocks.getD i stk0).lo + 1 = (sd b i : Int) := by
  obtain ⟨s, hs⟩ := ex_get hi
  have hso := stk_ok v (List.mem_of_getElem? hs)
  have hl : 0 < sd b i := by unfold sd; rw [getD_of hs]; omega
  have hm := Nat.mod_lt (wrd ws i) hl
  unfold st0
  have e : (sd b i : Int) = (b.stocks.getD i stk0).hi - (b.stocks.getD i stk0).lo + 1 := by unfold sd; rw [getD_of hs]; omega
  rw [getD_of hs] at e ⊢
  omega
structure SoOK (b : Brd) (i : Nat) (x : SoS) : Prop where
  n : x.now.length = b.stocks.length
  p : ∀ y ∈ x.now, 1 ≤ y ∧ y ≤ 799
  m : x.minute ≤ 600
  o : x.out.length = i
theorem sold_ok {b : Brd} {ws : List Int} (v : BrdOK b) : ∀ i, SoOK b i (soldN b ws i)
  | 0 => ⟨now0_len (Nat.le_refl _), fun y hy => by
      unfold soldN now0 at hy
      rw [Nat.sub_self] at hy
      simp only [List.replicate_zero, List.append_nil, List.mem_map, List.mem_range] at hy
      obtain ⟨j, hj, rfl⟩ := hy
      have := st0_bd (ws := ws) v hj; omega, by show (0 : Nat) ≤ 600; omega, rfl⟩
  | i + 1 => by
    have ih := sold_ok v (ws := ws) i
    refine ⟨by unfold soldN; rw [List.length_set]; exact ih.n, fun y hy => ?_, by unfold soldN soM; dsimp only; omega, by unfold soldN; simp [ih.o]⟩
    unfold soldN at hy
    rcases List.mem_or_eq_of_mem_set hy with h | rfl
    · exact ih.p y h
    · unfold soP; omega
theorem sold_add {b : Brd} {ws : List Int} {i : Nat} : (soldN b ws i).out.map salE ++ [salE ⟨(soK b ws i : Nat), soN ws i, soP b ws i (soldN b ws i).now, (soM ws i (soldN b ws i).minute : Nat)⟩] = (soldN b ws (i + 1)).out.map salE := by
  show _ = List.map salE (_ ++ [_])
  rw [List.map_append]; rfl
theorem soK_lt {b : Brd} {ws : List Int} (v : BrdOK b) (i : Nat) : soK b ws i < b.stocks.length := Nat.mod_lt _ (by have := v.n1; omega)
def readyB (b : Brd) : Bool := thinT b 0 && checkT b == 0
theorem sz168 : Sz Tryz.prog 168 1 := (by kernel_rfl : (Tryz.prog.info? 168).map (·.size) = some 1)
theorem bt91 : BT Tryz.prog 91 (.agg #[(.int .i64 0), (.int .i64 0), (.int .i64 0), (.int .i64 0)]) (fun i => ([(0, 1), (1, 1), (2, 1), (3, 1)] : List (Nat × Nat))[i]?) := bt_struct Tryz.underlying91 zr91 (by kernel_rfl)
theorem elt70 : ElT Tryz.prog 70 91 4 32 := elt_of Tryz.underlying70 (z := (.agg #[(.int .i64 0), (.int .i64 0), (.int .i64 0), (.int .i64 0)])) (by kernel_rfl) rfl (by decide)
theorem word_ok (ws : List Int) (i : Nat) (hw : WdsOK ws) : PureAt Tryz.prog 53 [wdsD ws, .int .i64 (i : Nat)] (.int .i64 (wrd ws i : Nat)) := by
 refine PureAt.of_awp Tryz.func53 rfl (by kernel_rfl) (Nat.le_of_ble_eq_true rfl) fun Γ hn hl => ?_
 have hw1 := hw.1
 refine awp_seq (awp_region ?_)
 refine sq rfl rfl hn rfl (q_assign rfl rfl) ?_
 refine run_nil (aend_then (awp_seq (awp_seq (awp_region ?_))))
 refine sq rfl rfl hn rfl (q_move rfl rfl) ?_
 refine sq rfl rfl hn rfl (q_len rfl rfl Tryz.underlying83) ?_
 refine sq rfl rfl hn rfl (q_eql rfl rfl rfl) ?_
 refine run_nil (aend_then ?_)
 refine awp_cond rfl (fun hb0 => ?_) (fun hb0 => ?_)
 ·
  obtain rfl : ws = [] := List.eq_nil_of_length_eq_zero (by simp at hb0; simpa using hb0)
  refine awp_seq (awp_region ?_)
  refine sq rfl rfl hn rfl (q_assign rfl rfl) ?_
  refine run_nil (aend_then (awp_ret (aend_then_ret ?_)))
  refine ret_eq (ret_1 (.inl rfl) hl rfl (.tmp rfl)) ?_
  simp [wrd]
 ·
  have hwl : ws.length ≠ 0 := by simp at hb0; simpa using hb0
  obtain ⟨x, hx⟩ := ex_get (show i % ws.length < ws.length from Nat.mod_lt _ (by omega))
  have hxb := hw.2 x (List.mem_of_getElem? hx)
  have e1 : ((wrd ws i : Nat) : Int) = x := by unfold wrd; rw [getD_of hx]; omega
  rw [e1]
  refine awp_skip (aend_then (awp_seq (awp_region ?_)))
  refine sq rfl rfl hn rfl (q_move rfl rfl) ?_
  refine sq rfl rfl hn rfl (q_move rfl rfl) ?_
  refine sq rfl rfl hn rfl (q_move rfl rfl) ?_
  refine sq rfl rfl hn rfl (q_len rfl rfl Tryz.underlying83) ?_
  refine sq rfl rfl hn rfl (q_rem rfl rfl rfl (r := ((i % ws.length : Nat) : Int)) (by rw [List.length_map]; omega) (by rw [List.length_map]; exact modN (by omega))) ?_
  refine sq rfl rfl hn rfl (q_index (i := i % ws.length) rfl rfl rfl Tryz.underlying83 sz168 rfl (mget hx)) ?_
  refine sq rfl rfl hn rfl (q_loadp rfl rfl Tryz.underlying168 rfl seesF0) ?_
  refine sq rfl rfl hn rfl (q_conv rfl rfl Tryz.underlying168 Tryz.underlying3 (i64w (by omega) rfl)) ?_
  refine sq rfl rfl hn rfl (q_assign rfl rfl) ?_
  refine run_nil (aend_then (awp_ret ?_))
  refine ret_eq (ret_1 (.inl rfl) hl rfl (.tmp rfl)) ?_
  rfl
theorem ready_ok (b : Brd) (hN : NamesOK b) : PureAt Tryz.prog 44 [brdD b] (.bool (readyB b)) := by
 refine PureAt.of_awp Tryz.func44 rfl (by kernel_rfl) (Nat.le_of_ble_eq_true rfl) fun Γ hn hl => ?_
 refine awp_seq (awp_region ?_)
 refine stepW (s_box 1 rfl rfl rfl (nb hn rfl) rfl rfl) fun b1 => ?_
 refine sq rfl rfl hn rfl (q_assign rfl rfl) ?_
 refine run_nil (aend_then (awp_seq (awp_region ?_)))
 refine sq rfl rfl hn rfl (q_loadAd rfl rfl (id := 1) rfl Tryz.underlying24 rfl sz24 rfl rfl sees0) ?_
 refine stepW (s_call [] (fun _ => (show PureAt Tryz.prog 16 [brdD b, strD []] (.bool (thinT b ([] : List UInt8).length)) from Thin_ok b [] hN)) rfl (guard_none rfl) rfl (nb hn rfl) (fun _ => trivial) rfl rfl (.refl _)) fun _ => ?_
 refine sq rfl rfl hn rfl (q_move rfl rfl) ?_
 refine stepG [] (guard_some rfl rfl rfl) rfl (nb hn rfl) (fun hc => trivial) (fun hc => q_loadAd rfl rfl (id := 1) rfl Tryz.underlying24 rfl sz24 rfl rfl sees0) ?_
 refine stepW (s_call [(6, _)] (fun hc => Fault_ok _ (by assumption)) rfl (guard_some rfl rfl rfl) rfl (nb hn rfl) (fun hc => ⟨⟨_, rfl, hc⟩, trivial⟩) rfl rfl (.refl _)) fun _ => ?_
 refine stepG [(7, _)] (guard_some rfl rfl rfl) rfl (nb hn rfl) (fun hc => ⟨⟨_, rfl, hc⟩, trivial⟩) (fun hc => q_eql rfl rfl rfl) ?_
 refine sq rfl rfl hn rfl (q_and rfl rfl rfl (by intro hB; first | (rw [hB]; rfl) | (rw [hB, hc]; rfl) | simp_all)) ?_
 refine sq rfl rfl hn rfl (q_assign rfl rfl) ?_
 refine run_nil (aend_then (awp_ret ?_))
 refine ret_eq (ret_1 (.inl rfl) hl rfl (.tmp rfl)) ?_
 rfl
theorem Sold_eff (b : Brd) (ws : List Int) (v : BrdOK b) (hw : WdsOK ws) : EffAt Tryz.prog 45 [.d (brdD b), .d (wdsD ws)] [] (X := Unit) (fun _ => .d (salsD (soldL b ws))) (fun _ => []) := by
 have hn1 := v.n1
 have hn4 := v.n4
 have hj0 := v.j0
 have hj4 := v.j4
 refine EffAt.of_awp Tryz.func45 rfl (by kernel_rfl) rfl fun Γ hn => ?_
 refine awp_seq (awp_region ?_)
 refine stepW (s_box 2 rfl rfl rfl (nb hn rfl) rfl rfl) fun b2 => ?_
 refine sq rfl rfl hn rfl (q_assign rfl rfl) ?_
 refine run_nil (aend_then (awp_seq (awp_region ?_)))
 refine sq rfl rfl hn rfl (q_assign rfl rfl) ?_
 refine run_nil (aend_then (awp_seq (awp_region ?_)))
 refine sq rfl rfl hn rfl (q_fieldAddr rfl rfl Tryz.underlying24 rfl sz22) ?_
 refine sq rfl rfl hn rfl (q_load rfl rfl (id := 2) rfl Tryz.underlying22 rfl rfl sees0) ?_
 refine sq rfl rfl hn rfl (q_len rfl rfl Tryz.underlying22) ?_
 refine stepW (s_makeSlice (n := b.stocks.length) 18 rfl rfl rfl (nb hn rfl) Tryz.underlying57 (show _ = some (some (.int .i64 0), 1, 8) from by kernel_rfl) rfl rfl rfl (by decide) rfl rfl (by rw [List.length_map]) (by rw [List.length_map]) (by omega) (by omega) (by omega)) fun b18 => ?_
 refine sq rfl rfl hn rfl (q_assign rfl rfl) ?_
 refine run_nil (aend_then (awp_seq (awp_seq (awp_region ?_))))
 refine sq rfl rfl hn rfl (q_assign rfl rfl) ?_
 refine run_nil (aend_then (awp_block ?_))
 refine awp_loop_on (ι := {i : Nat // i ≤ b.stocks.length}) (fun x => (7, true, .d (.int .i64 (x.1 : Nat))) :: anys [19, 20, 21, 22, 25, 26, 27, 28, 29, 30, 8, 31, 32, 33, 34, 35, 36, 37, 38, 39, 40, 41, 42, 43, 44, 45, 46, 23, 24]) (fun x => (18, .box b18 3 (intsT (now0 b ws x.1))) :: gones [8]) (fun x => b.stocks.length - x.1) ⟨0, Nat.zero_le _⟩ ⟨.inl rfl, holdT_anys _⟩ ⟨.inl (congrArg (fun z => some (Res.box b18 3 z)) (ints_zero _)), holdR_gones _⟩ ?_
 rintro ⟨i, hi⟩
 dsimp only
 refine awp_seq (awp_seq (awp_region ?_))
 refine sq rfl rfl hn rfl (q_move rfl rfl) ?_
 refine sq rfl rfl hn rfl (q_move rfl rfl) ?_
 refine sq rfl rfl hn rfl (q_lenV rfl rfl Tryz.underlying57) ?_
 refine sq rfl rfl hn rfl (q_lss rfl rfl rfl) ?_
 refine run_nil (aend_then ?_)
 refine awp_cond rfl (fun hb0 => ?_) (fun hb0 => ?_)
 ·
  have hil : i < b.stocks.length := by simp at hb0; omega
  obtain ⟨st, hst⟩ := ex_get hil
  have hbd := st0_bd (ws := ws) v hil
  have hst0 : st0 b ws i = st.lo + ((wrd ws i % sd b i : Nat) : Int) := by unfold st0; rw [getD_of hst]
  have hwl := wrd_lt hw i
  rw [getD_of hst] at hbd
  have hsd : 0 < sd b i := by omega
  have hml := Nat.mod_lt (wrd ws i) hsd
  refine awp_skip (aend_then (awp_seq (awp_block (awp_seq (awp_region ?_)))))
  refine sq rfl rfl hn rfl (q_fieldAddr rfl rfl Tryz.underlying24 rfl sz22) ?_
  refine sq rfl rfl hn rfl (q_load rfl rfl (id := 2) rfl Tryz.underlying22 rfl rfl sees0) ?_
  refine sq rfl rfl hn rfl (q_move rfl rfl) ?_
  refine sq rfl rfl hn rfl (q_index (i := i) rfl rfl rfl Tryz.underlying22 sz98 rfl (mget hst)) ?_
  refine sq rfl rfl hn rfl (q_fieldAddrp rfl rfl Tryz.underlying98 rfl sz41 rfl) ?_
  refine sq rfl rfl hn rfl (q_loadpA rfl rfl Tryz.underlying41 rfl sz41 rfl rfl seesF0) ?_
  refine stepW (s_alloc 8 rfl rfl rfl (nb hn rfl) zr41 rfl rfl) fun b8 => ?_
  refine stepW (s_store rfl rfl rfl rfl rfl rfl (id := 8) rfl sz41 rfl (Nat.le_of_ble_eq_true rfl) rfl trivial) fun _ => ?_
  refine run_nil (aend_then ?_)
  refine d_start (W := fun b => b ≠ b8) fmo ?_
  refine d1q (i := 0) rfl (by kernel_rfl) (fun _ _ _ _ h => h) rfl rfl hn rfl (q_move rfl rfl) ?_
  refine d1q (i := 1) rfl (by kernel_rfl) (fun _ _ _ _ h => h) rfl rfl hn rfl (q_move rfl rfl) ?_
  refine d1q (i := 2) rfl (by kernel_rfl) (fun _ _ _ _ h => h) rfl rfl hn rfl (q_fieldAddr rfl rfl Tryz.underlying41 rfl sz3) ?_
  refine d1q (i := 3) rfl (by kernel_rfl) (fun _ _ _ _ h => h) rfl rfl hn rfl (q_load rfl rfl (id := 8) rfl Tryz.underlying3 rfl rfl (seesA (by simp))) ?_
  refine d1q (i := 4) rfl (by kernel_rfl) (fun _ _ _ _ h => h) rfl rfl hn rfl (q_move rfl rfl) ?_
  refine d1q (i := 5) rfl (by kernel_rfl) (fun _ _ _ _ h => h) rfl rfl hn rfl (q_move rfl rfl) ?_
  refine d1q (i := 7) rfl (by kernel_rfl) (fun _ _ _ _ h => h) rfl rfl hn rfl (q_fieldAddr rfl rfl Tryz.underlying41 rfl sz3) ?_
  refine d1q (i := 8) rfl (by kernel_rfl) (fun _ _ _ _ h => h) rfl rfl hn rfl (q_load rfl rfl (id := 8) rfl Tryz.underlying3 rfl rfl (seesA (by simp))) ?_
  refine d1q (i := 9) rfl (by kernel_rfl) (fun _ _ _ _ h => h) rfl rfl hn rfl (q_fieldAddr rfl rfl Tryz.underlying41 rfl sz3) ?_
  refine d1q (i := 10) rfl (by kernel_rfl) (fun _ _ _ _ h => h) rfl rfl hn rfl (q_load rfl rfl (id := 8) rfl Tryz.underlying3 rfl rfl (seesA (by simp))) ?_
  refine d1q (i := 11) rfl (by kernel_rfl) (fun _ _ _ _ h => h) rfl rfl hn rfl (q_sub rfl rfl rfl (r := st.hi - st.lo) (i64w (by omega) rfl)) ?_
  refine d1q (i := 12) rfl (by kernel_rfl) (fun _ _ _ _ h => h) rfl rfl hn rfl (q_add rfl rfl rfl (r := ((sd b i : Nat) : Int)) (by rw [hbd.2.2.2.2]; exact i64w (by omega) rfl)) ?_
  refine d1_of_d2 ?_
  refine d2_one (i := 6) (by kernel_rfl) rfl (s_call [] (fun _ => word_ok ws i hw) rfl (guard_none rfl) rfl (nb hn rfl) (fun _ => trivial) rfl rfl (.refl _)) fun _ => ?_
  refine d2_of_d1 ?_
  refine d1q (i := 13) rfl (by kernel_rfl) (fun _ _ _ _ h => h) rfl rfl hn rfl (q_rem rfl rfl rfl (r := ((wrd ws i % sd b i : Nat) : Int)) (by omega) (modN (a := wrd ws i) (b := sd b i) hsd)) ?_
  refine d1q (i := 14) rfl (by kernel_rfl) (fun _ _ _ _ h => h) rfl rfl hn rfl (q_add rfl rfl rfl (r := st0 b ws i) (by rw [← hst0]; exact i64w (by omega) rfl)) ?_
  refine d1q (i := 15) rfl (by kernel_rfl) (fun _ _ _ _ h => h) rfl rfl hn rfl (q_indexV (i := i) rfl rfl rfl Tryz.underlying57 sz3 rfl (by omega)) ?_
  refine d1_of_d2 ?_
  refine g_ne_d2 (i := 18) (j := 8) rfl rfl rfl (fun hne18_8 => ?_)
  refine d2_one (i := 16) (by kernel_rfl) rfl (s_store1 rfl rfl rfl rfl rfl rfl (id := 18) rfl sz3 (by rw [ints_len, now0_len hi]; omega) ints_set (fun e => hne18_8 _ rfl (congrArg some e.symm))) fun _ => ?_
  refine d2_of_d1 (d1_of_d2 ?_)
  refine d2_done (by kernel_rfl) ?_
  refine aend_block (aend_then (awp_region ?_))
  refine sq rfl rfl hn rfl (q_move rfl rfl) ?_
  refine sq rfl rfl hn rfl (q_add rfl rfl rfl (r := ((i + 1 : Nat) : Int)) (i64w (by omega) (by omega))) ?_
  refine sq rfl rfl hn rfl (q_assign rfl rfl) ?_
  refine run_nil ?_
  exact aend_round_on ⟨i + 1, by omega⟩ ⟨.inl rfl, holdT_anys _⟩ ⟨.inl (congrArg (fun z => some (Res.box b18 3 (intsT z))) (now0_set hil)), holdR_gones _⟩ (by simp only; omega) (by repeat (first | exact kr _ | refine kc rfl ?_)) (by repeat (first | exact kr _ | refine kc rfl ?_))
 ·
  obtain rfl : i = b.stocks.length := by simp at hb0; omega
  refine awp_exit (aend_then_exit (aend_then_exit (aend_block_exit (aend_then (awp_seq (awp_region ?_))))))
  refine sq rfl rfl hn rfl (q_assign rfl rfl) ?_
  refine run_nil (aend_then (awp_seq (awp_seq ?_)))
  refine gh_awp (g_nil (t := 5) (id := 5) 91 4 rfl (nb hn rfl)) ?_
  refine awp_region ?_
  refine sq rfl rfl hn rfl (q_assign rfl rfl) ?_
  refine run_nil (aend_then (awp_block ?_))
  refine awp_loop_on (ι := {x : Nat × Value // x.1 ≤ wrd ws 5 % 8}) (fun x => (10, true, .d (.int .i64 (x.1.1 : Nat))) :: (9, true, .d (.int .i64 ((soldN b ws x.1.1).minute : Nat))) :: (5, true, .val x.1.2) :: anys [47, 48, 49, 50, 51, 54, 55, 56, 57, 58, 59, 60, 61, 62, 63, 11, 12, 64, 65, 66, 67, 68, 13, 69, 70, 71, 72, 73, 74, 75, 76, 77, 78, 79, 80, 81, 82, 83, 84, 85, 86, 87, 88, 89, 90, 91, 92, 93, 94, 95, 96, 97, 98, 99, 100, 14, 101, 102, 103, 104, 105, 106, 107, 108, 109, 110, 111, 112, 52, 53]) (fun x => (18, .box b18 3 (intsT (soldN b ws x.1.1).now)) :: (5, .row x.1.2 91 4 ((soldN b ws x.1.1).out.map salE)) :: gones [14]) (fun x => wrd ws 5 % 8 - x.1.1) ⟨(0, _), Nat.zero_le _⟩ ⟨.inl rfl, .inl rfl, .inl rfl, holdT_anys _⟩ ⟨.inl rfl, .inl rfl, holdR_gones _⟩ ?_
  rintro ⟨⟨i, vv⟩, hi⟩
  dsimp only
  dsimp only at hi
  have hso := sold_ok (ws := ws) v i
  have hm8 := Nat.mod_lt (wrd ws 5) (show 0 < 8 by omega)
  refine awp_seq (awp_seq (awp_region ?_))
  refine sq rfl rfl hn rfl (q_move rfl rfl) ?_
  refine sq rfl rfl hn rfl (q_move rfl rfl) ?_
  refine stepW (s_call [] (fun _ => word_ok ws 5 hw) rfl (guard_none rfl) rfl (nb hn rfl) (fun _ => trivial) rfl rfl (.refl _)) fun _ => ?_
  refine sq rfl rfl hn rfl (q_rem rfl rfl rfl (r := ((wrd ws 5 % 8 : Nat) : Int)) (by omega) (modN (a := wrd ws 5) (b := 8) (by omega))) ?_
  refine sq rfl rfl hn rfl (q_lss rfl rfl rfl) ?_
  refine run_nil (aend_then ?_)
  refine awp_cond rfl (fun hb1 => ?_) (fun hb1 => ?_)
  ·
   have hil : i < wrd ws 5 % 8 := by simp at hb1; omega
   have hkl := soK_lt (ws := ws) v i
   obtain ⟨pn, hpn⟩ := ex_get (show soK b ws i < (soldN b ws i).now.length by rw [hso.n]; exact hkl)
   have hpb := hso.p pn (List.mem_of_getElem? hpn)
   have hmm := hso.m
   have hwl := wrd_lt hw (2 * i + 6)
   have hvl := wrd_lt hw (2 * i + 7)
   have hpe : soP b ws i (soldN b ws i).now = max 1 (min 799 (pn + (wrd ws (2 * i + 7) : Int).tmod (2 * b.jump + 1) - b.jump)) := by unfold soP; rw [getD_of hpn]
   have hnl : ((soldN b ws i).now.length : Int) = (b.stocks.length : Nat) := by rw [hso.n]
   have htm : 0 ≤ (wrd ws (2 * i + 7) : Int).tmod (2 * b.jump + 1) ∧ (wrd ws (2 * i + 7) : Int).tmod (2 * b.jump + 1) ≤ 80 := by rw [Int.tmod_eq_emod_of_nonneg (by omega)]; have h1 := Int.emod_nonneg ((wrd ws (2 * i + 7) : Nat) : Int) (show 2 * b.jump + 1 ≠ 0 by omega); have h2 := Int.emod_lt_of_pos ((wrd ws (2 * i + 7) : Nat) : Int) (show 0 < 2 * b.jump + 1 by omega); omega
   have hpb2 : 1 ≤ soP b ws i (soldN b ws i).now ∧ soP b ws i (soldN b ws i).now ≤ 799 := by rw [hpe]; omega
   have hpn2 : ((soldN b ws i).now.set (soK b ws i) (soP b ws i (soldN b ws i).now))[soK b ws i]? = some (soP b ws i (soldN b ws i).now) := by rw [List.getElem?_set, if_pos rfl, if_pos (by rw [hso.n]; exact hkl)]
   have hol := hso.o
   refine awp_skip (aend_then (awp_seq (awp_block (awp_seq (awp_region ?_)))))
   refine sq rfl rfl hn rfl (q_move rfl rfl) ?_
   refine sq rfl rfl hn rfl (q_move rfl rfl) ?_
   refine sq rfl rfl hn rfl (q_mul rfl rfl rfl (r := ((2 * i : Nat) : Int)) (i64w (by omega) (by omega))) ?_
   refine sq rfl rfl hn rfl (q_add rfl rfl rfl (r := ((2 * i + 6 : Nat) : Int)) (i64w (by omega) (by omega))) ?_
   refine stepW (s_call [] (fun _ => word_ok ws (2 * i + 6) hw) rfl (guard_none rfl) rfl (nb hn rfl) (fun _ => trivial) rfl rfl (.refl _)) fun _ => ?_
   refine sq rfl rfl hn rfl (q_move rfl rfl) ?_
   refine sq rfl rfl hn rfl (q_move rfl rfl) ?_
   refine sq rfl rfl hn rfl (q_mul rfl rfl rfl (r := ((2 * i : Nat) : Int)) (i64w (by omega) (by omega))) ?_
   refine sq rfl rfl hn rfl (q_add rfl rfl rfl (r := ((2 * i + 7 : Nat) : Int)) (i64w (by omega) (by omega))) ?_
   refine stepW (s_call [] (fun _ => word_ok ws (2 * i + 7) hw) rfl (guard_none rfl) rfl (nb hn rfl) (fun _ => trivial) rfl rfl (.refl _)) fun _ => ?_
   refine sq rfl rfl hn rfl (q_assign rfl rfl) ?_
   refine sq rfl rfl hn rfl (q_assign rfl rfl) ?_
   refine run_nil (aend_then (awp_seq (awp_region ?_)))
   refine sq rfl rfl hn rfl (q_move rfl rfl) ?_
   refine sq rfl rfl hn rfl (q_quo rfl rfl rfl (r := ((wrd ws (2 * i + 6) / 8 : Nat) : Int)) (by omega) (quoN (a := wrd ws (2 * i + 6)) (b := 8) (by omega) (by omega))) ?_
   refine sq rfl rfl hn rfl (q_move rfl rfl) ?_
   refine sq rfl rfl hn rfl (q_lenV rfl rfl Tryz.underlying57) ?_
   refine sq rfl rfl hn rfl (q_rem rfl rfl rfl (r := ((soK b ws i : Nat) : Int)) (by omega) (modN (a := wrd ws (2 * i + 6) / 8) (b := b.stocks.length) (by omega))) ?_
   refine sq rfl rfl hn rfl (q_assign rfl rfl) ?_
   refine run_nil (aend_then (awp_seq ?_))
   refine d_start (W := fun b => b ≠ b2) fmo ?_
   refine d1q (i := 0) rfl (by kernel_rfl) (fun _ _ _ _ h => h) rfl rfl hn rfl (q_move rfl rfl) ?_
   refine d1q (i := 1) rfl (by kernel_rfl) (fun _ _ _ _ h => h) rfl rfl hn rfl (q_move rfl rfl) ?_
   refine d1q (i := 2) rfl (by kernel_rfl) (fun _ _ _ _ h => h) rfl rfl hn rfl (q_move rfl rfl) ?_
   refine d1q (i := 3) rfl (by kernel_rfl) (fun _ _ _ _ h => h) rfl rfl hn rfl (q_move rfl rfl) ?_
   refine d1q (i := 4) rfl (by kernel_rfl) (fun _ _ _ _ h => h) rfl rfl hn rfl (q_indexV (i := soK b ws i) rfl rfl rfl Tryz.underlying57 sz3 rfl (by omega)) ?_
   refine d1q (i := 6) rfl (by kernel_rfl) (fun _ _ _ _ h => h) rfl rfl hn rfl (q_move rfl rfl) ?_
   refine d1q (i := 7) rfl (by kernel_rfl) (fun _ _ _ _ h => h) rfl rfl hn rfl (q_fieldAddr rfl rfl Tryz.underlying24 rfl sz3) ?_
   refine d1q (i := 8) rfl (by kernel_rfl) (fun _ _ _ _ h => h) rfl rfl hn rfl (q_load rfl rfl (id := 2) rfl Tryz.underlying3 rfl rfl (seesA (by simp))) ?_
   refine d1q (i := 9) rfl (by kernel_rfl) (fun _ _ _ _ h => h) rfl rfl hn rfl (q_mul rfl rfl rfl (r := 2 * b.jump) (i64w (by omega) rfl)) ?_
   refine d1q (i := 10) rfl (by kernel_rfl) (fun _ _ _ _ h => h) rfl rfl hn rfl (q_add rfl rfl rfl (r := 2 * b.jump + 1) (i64w (by omega) rfl)) ?_
   refine d1q (i := 11) rfl (by kernel_rfl) (fun _ _ _ _ h => h) rfl rfl hn rfl (q_rem rfl rfl rfl (by omega) rfl) ?_
   refine d1q (i := 13) rfl (by kernel_rfl) (fun _ _ _ _ h => h) rfl rfl hn rfl (q_fieldAddr rfl rfl Tryz.underlying24 rfl sz3) ?_
   refine d1q (i := 14) rfl (by kernel_rfl) (fun _ _ _ _ h => h) rfl rfl hn rfl (q_load rfl rfl (id := 2) rfl Tryz.underlying3 rfl rfl (seesA (by simp))) ?_
   refine d1_of_d2 ?_
   refine d2_one (i := 5) (by kernel_rfl) rfl (quiet_wg _ [] (guard_none rfl) rfl (nb hn rfl) (fun _ => trivial) (fun _ => q_load rfl rfl (id := 18) rfl Tryz.underlying3 rfl (ints_get hpn) sees0)) fun _ => ?_
   refine d2_of_d1 ?_
   refine d1q (i := 12) rfl (by kernel_rfl) (fun _ _ _ _ h => h) rfl rfl hn rfl (q_add rfl rfl rfl (r := pn + (wrd ws (2 * i + 7) : Int).tmod (2 * b.jump + 1)) (i64w (by omega) rfl)) ?_
   refine d1q (i := 15) rfl (by kernel_rfl) (fun _ _ _ _ h => h) rfl rfl hn rfl (q_sub rfl rfl rfl (r := pn + (wrd ws (2 * i + 7) : Int).tmod (2 * b.jump + 1) - b.jump) (i64w (by omega) rfl)) ?_
   refine d1q (i := 16) rfl (by kernel_rfl) (fun _ _ _ _ h => h) rfl rfl hn rfl (q_min rfl rfl rfl) ?_
   refine d1q (i := 17) rfl (by kernel_rfl) (fun _ _ _ _ h => h) rfl rfl hn rfl (q_max rfl rfl rfl) ?_
   refine d1q (i := 18) rfl (by kernel_rfl) (fun _ _ _ _ h => h) rfl rfl hn rfl (q_indexV (i := soK b ws i) rfl rfl rfl Tryz.underlying57 sz3 rfl (by omega)) ?_
   refine d1_of_d2 ?_
   refine g_ne_d2 (i := 18) (j := 2) rfl rfl rfl (fun hne18_2 => ?_)
   refine d2_one (i := 19) (by kernel_rfl) rfl (s_store1 rfl rfl rfl rfl rfl rfl (id := 18) rfl sz3 (by rw [ints_len, hso.n]; omega) (show (intsT (soldN b ws i).now).set (0 + soK b ws i * 1) (.d (.int .i64 (max 1 (min 799 (pn + (wrd ws (2 * i + 7) : Int).tmod (2 * b.jump + 1) - b.jump))))) = intsT ((soldN b ws i).now.set (soK b ws i) (soP b ws i (soldN b ws i).now)) from by rw [← hpe]; exact ints_set) (fun e => hne18_2 _ rfl (congrArg some e.symm))) fun _ => ?_
   refine d2_of_d1 (d1_of_d2 ?_)
   refine d2_done (by kernel_rfl) ?_
   refine aend_then (awp_seq ?_)
   have hmin : min (600 : Int) (((soldN b ws i).minute + wrd ws (2 * i + 7) / 128 % 4 : Nat) : Int) = ((soM ws i (soldN b ws i).minute : Nat) : Int) := by unfold soM; omega
   refine awp_region ?_
   refine sq rfl rfl hn rfl (q_move rfl rfl) ?_
   refine sq rfl rfl hn rfl (q_move rfl rfl) ?_
   refine sq rfl rfl hn rfl (q_quo rfl rfl rfl (r := ((wrd ws (2 * i + 7) / 128 : Nat) : Int)) (by omega) (quoN (a := wrd ws (2 * i + 7)) (b := 128) (by omega) (by omega))) ?_
   refine sq rfl rfl hn rfl (q_rem rfl rfl rfl (r := ((wrd ws (2 * i + 7) / 128 % 4 : Nat) : Int)) (by omega) (modN (a := wrd ws (2 * i + 7) / 128) (b := 4) (by omega))) ?_
   refine sq rfl rfl hn rfl (q_add rfl rfl rfl (r := (((soldN b ws i).minute + wrd ws (2 * i + 7) / 128 % 4 : Nat) : Int)) (i64w (by omega) (by omega))) ?_
   refine sq rfl rfl hn rfl (q_min rfl rfl rfl) ?_
   refine sq rfl rfl hn rfl (q_assign rfl rfl) ?_
   refine run_nil (aend_then (awp_seq ?_))
   rw [hmin]
   refine awp_region ?_
   refine sq rfl rfl hn rfl (q_move rfl rfl) ?_
   refine sq rfl rfl hn rfl (q_move rfl rfl) ?_
   refine sq rfl rfl hn rfl (q_move rfl rfl) ?_
   refine sq rfl rfl hn rfl (q_indexV (i := soK b ws i) rfl rfl rfl Tryz.underlying57 sz3 rfl (by omega)) ?_
   refine sq rfl rfl hn rfl (q_load rfl rfl (id := 18) rfl Tryz.underlying3 rfl (ints_get hpn2) sees0) ?_
   refine sq rfl rfl hn rfl (q_move rfl rfl) ?_
   refine sq rfl rfl hn rfl (q_buildd rfl bt91 rfl rfl rfl rfl rfl) ?_
   refine stepW (s_alloc 14 rfl rfl rfl (nb hn rfl) zr91 rfl rfl) fun b14 => ?_
   refine stepW (s_store rfl rfl rfl rfl rfl rfl (id := 14) rfl sz91 rfl (Nat.le_of_ble_eq_true rfl) rfl trivial) fun _ => ?_
   refine run_nil (aend_then (awp_seq (awp_seq (awp_region ?_))))
   refine sq rfl rfl hn rfl (q_move rfl rfl) ?_
   refine sq rfl rfl hn rfl (q_rem rfl rfl rfl (r := ((wrd ws (2 * i + 6) % 4 : Nat) : Int)) (by omega) (modN (a := wrd ws (2 * i + 6)) (b := 4) (by omega))) ?_
   refine sq rfl rfl hn rfl (q_eql rfl rfl rfl) ?_
   refine run_nil (aend_then ?_)
   refine awp_join_on (e := .normal) (ι := Unit) (fun u0 => anys [104, 105, 106, 107, 108]) (fun u0 => [(14, .box b14 91 ((salE ⟨(soK b ws i : Nat), soN ws i, soP b ws i (soldN b ws i).now, (soM ws i (soldN b ws i).minute : Nat)⟩).map .d))]) (fun hJ2 => ?_) ?_
   ·
    refine awp_cond rfl (fun hb2 => ?_) (fun hb2 => ?_)
    ·
     have q2 : (wrd ws (2 * i + 6) % 4 == 0) = true := by have h := hb2; rw [beq_iff_eq] at h ⊢; omega
     have e2 : ((1 + wrd ws (2 * i + 6) / 64 % 99 : Nat) : Int) = soN ws i := by unfold soN; rw [q2]; rfl
     refine awp_region ?_
     refine sq rfl rfl hn rfl (q_move rfl rfl) ?_
     refine sq rfl rfl hn rfl (q_quo rfl rfl rfl (r := ((wrd ws (2 * i + 6) / 64 : Nat) : Int)) (by omega) (quoN (a := wrd ws (2 * i + 6)) (b := 64) (by omega) (by omega))) ?_
     refine sq rfl rfl hn rfl (q_rem rfl rfl rfl (r := ((wrd ws (2 * i + 6) / 64 % 99 : Nat) : Int)) (by omega) (modN (a := wrd ws (2 * i + 6) / 64) (b := 99) (by omega))) ?_
     refine sq rfl rfl hn rfl (q_add rfl rfl rfl (r := ((1 + wrd ws (2 * i + 6) / 64 % 99 : Nat) : Int)) (i64w (by omega) (by omega))) ?_
     refine sq rfl rfl hn rfl (q_fieldAddr rfl rfl Tryz.underlying91 rfl sz3) ?_
     refine stepW (s_store1 rfl rfl rfl rfl rfl rfl (id := 14) rfl sz3 (Nat.le_of_ble_eq_true rfl) rfl trivial) fun _ => ?_
     refine run_nil ?_
     exact aend_join_on hJ2 () (holdT_anys _) ⟨.inl (by rw [← e2]; rfl), trivial⟩ (by repeat (first | exact kr _ | refine kc rfl ?_)) (by repeat (first | exact kr _ | refine kc rfl ?_))
    ·
     have q2 : (wrd ws (2 * i + 6) % 4 == 0) = false := by have h := hb2; rw [beq_eq_false_iff_ne] at h ⊢; omega
     have e2 : (1 : Int) = soN ws i := by unfold soN; rw [q2]; rfl
     refine awp_skip ?_
     exact aend_join_on hJ2 () (holdT_anys _) ⟨.inl (by rw [← e2]; rfl), trivial⟩ (by repeat (first | exact kr _ | refine kc rfl ?_)) (by repeat (first | exact kr _ | refine kc rfl ?_))
   ·
    rintro _
    refine aend_then (awp_region ?_)
    refine sq rfl rfl hn rfl (q_move rfl rfl) ?_
    refine sq rfl rfl hn rfl (q_loadAd rfl rfl (id := 14) rfl Tryz.underlying91 rfl sz91 rfl rfl sees0) ?_
    refine stepW (s_buildSlice rfl rfl rfl (nb hn rfl) Tryz.underlying70 sz91 zr91 rfl rfl rfl (show _ = [.d (.int .i64 0), .d (.int .i64 0), .d (.int .i64 0), .d (.int .i64 0)] from by kernel_rfl) (by kernel_rfl) rfl (fill_agg (by kernel_rfl) rfl) (allD_d _) (beq_len rfl) (chunk_one rfl)) fun _ => ?_
    refine stepW (s_append (id := 5) rfl rfl rfl (nb hn rfl) elt70 trivial rfl rfl rfl (by simp [chunk]; omega) (by simp [chunk]; omega) (fun b hb => trivial)) fun v112 => ?_
    refine sq rfl rfl hn rfl (q_assign rfl rfl) ?_
    refine run_nil (aend_block (aend_then (awp_region ?_)))
    refine sq rfl rfl hn rfl (q_move rfl rfl) ?_
    refine sq rfl rfl hn rfl (q_add rfl rfl rfl (r := ((i + 1 : Nat) : Int)) (i64w (by omega) (by omega))) ?_
    refine sq rfl rfl hn rfl (q_assign rfl rfl) ?_
    refine run_nil ?_
    exact aend_round_on ⟨(i + 1, v112), by simp only; omega⟩ ⟨.inl rfl, .inl rfl, .inl rfl, holdT_anys _⟩ ⟨.inl rfl, .inl (congrArg (fun z => some (Res.row v112 91 4 z)) sold_add), holdR_gones _⟩ (by simp only; omega) (by repeat (first | exact kr _ | refine kc rfl ?_)) (by repeat (first | exact kr _ | refine kc rfl ?_))
  ·
   obtain rfl : i = wrd ws 5 % 8 := Nat.le_antisymm hi (by have h := hb1; simp only [decide_eq_false_iff_not, Int.not_lt] at h; omega)
   refine awp_exit (aend_then_exit (aend_then_exit (aend_block_exit (aend_then (awp_seq (awp_region ?_))))))
   refine sq rfl rfl hn rfl (q_move rfl rfl) ?_
   refine sq rfl rfl hn rfl (q_assign rfl rfl) ?_
   refine run_nil (aend_then (awp_ret ?_))
   refine gh_end (g_row (t := 4) (id := 5) rfl rfl) ?_
   exact ret_E (.inl rfl) () (hands_1 rfl (.tmp rfl)) trivial
end Go.Proofs.YtplpcamcnppibaaGreatDoor
namespace Go.Proofs.YtplpcamcnppibaaGreatDoor
open Go.ChangeShapes Go.WideShapes Go.ChangeAt Go.RowKit
set_option linter.all false
theorem bytes168 : Tryz.prog.bytesOf 168 = 2 := by kernel_rfl
theorem w16_ok {l : List Int} (h : l.length * Tryz.prog.bytesOf 168 ≤ reachBytes ∧ ∀ n ∈ l, 0 ≤ n ∧ n ≤ 65535) : WdsOK l := by
  refine ⟨?_, h.2⟩
  have := h.1
  rw [bytes168] at this
  unfold reachBytes at this
  omega
end Go.Proofs.YtplpcamcnppibaaGreatDoor
namespace Go.Proofs.YtplpcamcnppibaaGreatDoor
open Go.RowKit
set_option linter.all false
set_option maxHeartbeats 4000000
def salP (s : Sal) : Prt := ⟨s.stock, s.number, s.number, s.price, true, s.minute, 0, 0⟩
def lastMin : List Sal → Int → Int
  | [], bm => bm
  | s :: r, _ => lastMin r s.minute
theorem okAll_app {b : Brd} {s : Sal} : ∀ {l : List Sal} {bm : Int}, okAll b (l ++ [s]) bm = (okAll b l bm && okSal b s (lastMin l bm))
  | [], bm => by simp [okAll, lastMin]
  | x :: l, bm => by show (okSal b x bm && okAll b (l ++ [s]) x.minute) = _; rw [okAll_app]; simp only [okAll, lastMin, Bool.and_assoc]
theorem lastMin_app {s : Sal} : ∀ {l : List Sal} {bm : Int}, lastMin (l ++ [s]) bm = s.minute
  | [], _ => rfl
  | x :: l, bm => lastMin_app (l := l)
theorem ahead_pre {l r : List Prt} {st : Int} : ∀ {i : Nat}, i ≤ l.length → aheadGo (l ++ r) st i = aheadGo l st i
  | 0, _ => rfl
  | i + 1, h => by
    unfold aheadGo
    rw [ahead_pre (by omega), List.getD_eq_getElem?_getD, List.getElem?_append_left (by omega), ← List.getD_eq_getElem?_getD]
theorem ahead_stock {l l' : List Prt} {st : Int} : ∀ {i : Nat}, (∀ j, j < i → (l.getD j prt0).stock = (l'.getD j prt0).stock) → aheadGo l st i = aheadGo l' st i
  | 0, _ => rfl
  | i + 1, h => by unfold aheadGo; rw [h i (by omega), ahead_stock fun j hj => h j (by omega)]
theorem steps_stock {b : Brd} {l l' : List Prt} {j : Nat} {f : Nat → Int} (h : ∀ k, k ≤ j → (l.getD k prt0).stock = (l'.getD k prt0).stock) : stepsF b l j f = stepsF b l' j f := by
  unfold stepsF aheadI
  rw [h j (Nat.le_refl _), ahead_stock fun k hk => h k (by omega)]
theorem get_pre {α : Type} {l r : List α} {d : α} {j : Nat} (h : j < l.length) : (l ++ r).getD j d = l.getD j d := by
  rw [List.getD_eq_getElem?_getD, List.getElem?_append_left h, ← List.getD_eq_getElem?_getD]
theorem get_end {α : Type} {l : List α} {x d : α} : (l ++ [x]).getD l.length d = x := by simp
/-- Prices keep the Jump. -/
def JumpOK (b : Brd) (l : List Sal) : Prop := ∀ j, j < l.length → stepsF b (l.map salP) j (fun k => (l.getD k sal0).price) = true
structure SoldI (b : Brd) (x : SoS) : Prop where
  ok : okAll b x.out 0 = true
  last : lastMin x.out 0 = (x.minute : Nat)
  jump : JumpOK b x.out
  now : ∀ k : Nat, k < b.stocks.length → (aheadGo (x.out.map salP) (k : Int) x.out.length < 0 ∧ (b.stocks.getD k stk0).lo ≤ x.now.getD k 0 ∧ x.now.getD k 0 ≤ (b.stocks.getD k stk0).hi) ∨ ∃ a : Nat, aheadGo (x.out.map salP) (k : Int) x.out.length = (a : Nat) ∧ x.now.getD k 0 = (x.out.getD a sal0).price
theorem sold_inv {b : Brd} {ws : List Int} (v : BrdOK b) (hw : WdsOK ws) : ∀ i, SoldI b (soldN b ws i)
  | 0 => by
    refine ⟨rfl, rfl, fun j hj => by simp [soldN] at hj, fun k hk => .inl ⟨?_, ?_⟩⟩
    · show aheadGo [] (k : Int) 0 < 0; unfold aheadGo; omega
    · have := st0_bd (ws := ws) v hk
      have e : (soldN b ws 0).now.getD k 0 = st0 b ws k := by
        show (now0 b ws b.stocks.length).getD k 0 = _
        unfold now0
        rw [Nat.sub_self]
        simp only [List.replicate_zero, List.append_nil]
        exact getD_of (by rw [List.getElem?_map, List.getElem?_range hk]; rfl)
      rw [e]; exact ⟨this.1, this.2.1⟩
  | i + 1 => by
    have ih := sold_inv v hw i
    have ho := sold_ok (ws := ws) v i
    have hkl := soK_lt (ws := ws) v i
    have hj0 := v.j0
    have hj4 := v.j4
    obtain ⟨pn, hpn⟩ := ex_get (show soK b ws i < (soldN b ws i).now.length by rw [ho.n]; exact hkl)
    have hpb := ho.p pn (List.mem_of_getElem? hpn)
    have hmm := ho.m
    have hpd : (soldN b ws i).now.getD (soK b ws i) 0 = pn := getD_of hpn
    have hpe : soP b ws i (soldN b ws i).now = max 1 (min 799 (pn + (wrd ws (2 * i + 7) : Int).tmod (2 * b.jump + 1) - b.jump)) := by unfold soP; rw [hpd]
    have htm : 0 ≤ (wrd ws (2 * i + 7) : Int).tmod (2 * b.jump + 1) ∧ (wrd ws (2 * i + 7) : Int).tmod (2 * b.jump + 1) ≤ 2 * b.jump := by
      rw [Int.tmod_eq_emod_of_nonneg (by omega)]
      have h1 := Int.emod_nonneg ((wrd ws (2 * i + 7) : Nat) : Int) (show 2 * b.jump + 1 ≠ 0 by omega)
      have h2 := Int.emod_lt_of_pos ((wrd ws (2 * i + 7) : Nat) : Int) (show 0 < 2 * b.jump + 1 by omega)
      omega
    generalize hK : soK b ws i = K at *
    generalize hP : soP b ws i (soldN b ws i).now = P at *
    have hP1 : 1 ≤ P ∧ P ≤ 799 ∧ P - pn ≤ b.jump ∧ pn - P ≤ b.jump := by rw [hpe]; omega
    have hN : soN ws i = 1 ∨ ∃ n : Nat, soN ws i = n ∧ 1 ≤ n ∧ n ≤ 99 := by
      unfold soN
      cases wrd ws (2 * i + 6) % 4 == 0
      · left; rfl
      · right
        have := Nat.mod_lt (wrd ws (2 * i + 6) / 64) (show 0 < 99 by omega)
        exact ⟨_, rfl, by omega, by omega⟩
    have hM : (soM ws i (soldN b ws i).minute) ≤ 600 ∧ (soldN b ws i).minute ≤ soM ws i (soldN b ws i).minute := by unfold soM; omega
    have eS : soldN b ws (i + 1) = ⟨(soldN b ws i).now.set K P, soM ws i (soldN b ws i).minute, (soldN b ws i).out ++ [⟨(K : Nat), soN ws i, P, (soM ws i (soldN b ws i).minute : Nat)⟩]⟩ := by rw [← hK, ← hP]; rfl
    rw [eS]
    generalize hX : soldN b ws i = X at *
    generalize hS : (⟨(K : Nat), soN ws i, P, (soM ws i X.minute : Nat)⟩ : Sal) = S
    have hSs : S.stock = (K : Nat) := by rw [← hS]
    have hSp : S.price = P := by rw [← hS]
    have hSm : S.minute = (soM ws i X.minute : Nat) := by rw [← hS]
    have hSn : 1 ≤ S.number ∧ S.number ≤ 99 := by
      rw [← hS]; rcases hN with h | ⟨n, h, h1, h2⟩
      · show 1 ≤ soN ws i ∧ soN ws i ≤ 99; omega
      · show 1 ≤ soN ws i ∧ soN ws i ≤ 99; omega
    have hmap : (X.out ++ [S]).map salP = X.out.map salP ++ [salP S] := by simp
    have hlen : (X.out.map salP).length = X.out.length := List.length_map _
    refine ⟨?_, ?_, ?_, ?_⟩
    · show okAll b (X.out ++ [S]) 0 = true
      rw [okAll_app, ih.ok, ih.last, Bool.true_and]
      exact okSal_iff.2 ⟨by omega, hSn, by omega, by omega⟩
    · show lastMin (X.out ++ [S]) 0 = _
      rw [lastMin_app, hSm]
    · intro j hj
      simp only [List.length_append, List.length_cons, List.length_nil] at hj
      dsimp only
      by_cases e : j = X.out.length
      · subst e
        unfold stepsF aheadI
        rw [hmap, show ((X.out.map salP) ++ [salP S]).getD X.out.length prt0 = salP S by rw [← hlen]; exact get_end, ahead_pre (by rw [hlen]; exact Nat.le_refl _)]
        dsimp only
        rw [get_end]
        show (bif decide (0 ≤ aheadGo (X.out.map salP) S.stock X.out.length) then nearB S.price ((X.out ++ [S]).getD (aheadGo (X.out.map salP) S.stock X.out.length).toNat sal0).price b.jump else withinB S.price ((b.stocks.getD S.stock.toNat stk0).lo - b.jump) ((b.stocks.getD S.stock.toNat stk0).hi + b.jump)) = true
        rw [hSs, hSp, Int.toNat_natCast]
        rcases ih.now K hkl with ⟨h1, h2, h3⟩ | ⟨a, h1, h2⟩
        · rw [decide_eq_false (by omega), cond_false]
          exact within_iff.2 (by omega)
        · rw [h1, decide_eq_true (by omega), cond_true, Int.toNat_natCast]
          have ha := (ahead_iff.1 h1).1
          rw [get_pre ha, ← h2, hpd]
          exact near_iff.2 (by omega)
      · have hj2 : j < X.out.length := by omega
        have h0 := ih.jump j hj2
        rw [← h0]
        have e1 : stepsF b ((X.out ++ [S]).map salP) j (fun k => ((X.out ++ [S]).getD k sal0).price) = stepsF b (X.out.map salP) j (fun k => ((X.out ++ [S]).getD k sal0).price) := steps_stock fun k hk => by
          rw [hmap, get_pre (by rw [hlen]; omega)]
        rw [e1]
        refine stepsF_congr (by (try dsimp only); rw [get_pre hj2]) fun k hk => ?_
        have hk : aheadGo (X.out.map salP) ((X.out.map salP).getD j prt0).stock j = (k : Nat) := hk
        have := (ahead_iff.1 hk).1
        (try dsimp only)
        rw [get_pre (by omega)]
    · intro k hk
      dsimp only
      rw [hmap, List.length_append, List.length_cons, List.length_nil, show X.out.length + (0 + 1) = X.out.length + 1 by omega]
      unfold aheadGo
      rw [show ((X.out.map salP) ++ [salP S]).getD X.out.length prt0 = salP S by rw [← hlen]; exact get_end, ahead_pre (by rw [hlen]; exact Nat.le_refl _)]
      show ((bif S.stock == (k : Int) then ((X.out.length : Nat) : Int) else _) < 0 ∧ _) ∨ ∃ a : Nat, (bif S.stock == (k : Int) then ((X.out.length : Nat) : Int) else _) = (a : Nat) ∧ _
      rw [hSs]
      by_cases e : K = k
      · subst e
        rw [show (((K : Nat) : Int) == (K : Int)) = true by simp, cond_true]
        refine .inr ⟨X.out.length, rfl, ?_⟩
        rw [get_end, hSp]
        exact getD_of (by rw [List.getElem?_set, if_pos rfl, if_pos (by rw [ho.n]; exact hkl)])
      · rw [show (((K : Nat) : Int) == (k : Int)) = false by simp; omega, cond_false]
        have e2 : (X.now.set K P).getD k 0 = X.now.getD k 0 := by rw [List.getD_eq_getElem?_getD, List.getElem?_set, if_neg e, ← List.getD_eq_getElem?_getD]
        rw [e2]
        rcases ih.now k hk with h | ⟨a, h1, h2⟩
        · exact .inl h
        · exact .inr ⟨a, h1, by rw [get_pre (ahead_iff.1 h1).1]; exact h2⟩
/-- What is so of sales that are chosen by words. -/
structure SoldOK (b : Brd) (l : List Sal) : Prop where
  ok : okAll b l 0 = true
  l7 : l.length ≤ 7
  jump : JumpOK b l
theorem soldL_ok {b : Brd} {ws : List Int} (v : BrdOK b) (hw : WdsOK ws) : SoldOK b (soldL b ws) := by
  have h := sold_inv v hw (wrd ws 5 % 8)
  exact ⟨h.ok, by unfold soldL; rw [(sold_ok v _).o]; have := Nat.mod_lt (wrd ws 5) (show 0 < 8 by omega); omega, h.jump⟩
theorem okAll_get {b : Brd} : ∀ {l : List Sal} {bm : Int} {i : Nat} {s : Sal}, okAll b l bm = true → l[i]? = some s → ∃ bm', okSal b s bm' = true ∧ bm ≤ bm'
  | x :: l, bm, 0, s, h, hs => by
    unfold okAll at h
    rw [Bool.and_eq_true] at h
    simp at hs; subst hs
    exact ⟨bm, h.1, Int.le_refl _⟩
  | x :: l, bm, i + 1, s, h, hs => by
    unfold okAll at h
    rw [Bool.and_eq_true] at h
    obtain ⟨bm', h1, h2⟩ := okAll_get h.2 (by simpa using hs)
    have := (okSal_iff.1 h.1).2.2.2
    exact ⟨bm', h1, by omega⟩
  | [], _, _, _, _, hs => by simp at hs
theorem okAll_bd {b : Brd} {l : List Sal} {i : Nat} {s : Sal} (h : okAll b l 0 = true) (hs : l[i]? = some s) : (0 ≤ s.stock ∧ s.stock ≤ (b.stocks.length : Int) - 1) ∧ (1 ≤ s.number ∧ s.number ≤ 99) ∧ (1 ≤ s.price ∧ s.price ≤ 799) ∧ 0 ≤ s.minute ∧ s.minute ≤ 600 := by
  obtain ⟨bm, h1, h2⟩ := okAll_get h hs
  obtain ⟨a1, a2, a3, a4⟩ := okSal_iff.1 h1
  exact ⟨a1, a2, a3, by omega, by omega⟩
theorem la_step {b : Brd} {a c : Nat} (h : a ≤ c ∧ c ≤ 60) {R : List Wd} (hR : CanAll b R { wrk0 with llo := (a : Nat), lhi := (c : Nat) }) : CanAll b (.la a c :: R) wrk0 ∧ runAll b (.la a c :: R) wrk0 = runAll b R { wrk0 with llo := (a : Nat), lhi := (c : Nat) } := ⟨⟨h, show wrk0.number ≤ 0 by decide, hR⟩, rfl⟩
end Go.Proofs.YtplpcamcnppibaaGreatDoor
namespace Go.Proofs.YtplpcamcnppibaaGreatDoor
open Go.RowKit
set_option maxRecDepth 20000
set_option linter.all false
set_option maxHeartbeats 4000000
theorem ready_is {b : Brd} (h : readyB b = true) : checkT b = 0 ∧ b.stocks.length ≤ 7 := by
  unfold readyB at h
  rw [Bool.and_eq_true, beq_iff_eq] at h
  exact ⟨h.2, (thin_bd (n := 0) h.1).1⟩
theorem Sold_ok (b : Brd) (ws : List Int) (v : BrdOK b) (hw : WdsOK ws) : PureAt Tryz.prog 45 [brdD b, wdsD ws] (salsD (soldL b ws)) := PureAt.of_eff (ds := [brdD b, wdsD ws]) (Sold_eff b ws v hw)
end Go.Proofs.YtplpcamcnppibaaGreatDoor
namespace Go.Proofs.YtplpcamcnppibaaGreatDoor
open Go.RowKit
set_option maxRecDepth 20000
set_option linter.all false
set_option maxHeartbeats 4000000
def oneS (s : Sal) : Sal := { s with number := 1 }
def ltR (l : List Sal) : List Wd := need (l.map oneS) 0 (-1) 0
def ltS (b : Brd) (l : List Sal) (a c : Nat) : List UInt8 := (Wd.la a c).text b ++ spsW b (ltR l)
def ltM (a c : Nat) (s : Sal) : Int × Int := (s.minute - (c : Nat), s.minute - (a : Nat))
theorem one_ok {b : Brd} : ∀ {l : List Sal} {bm : Int}, okAll b l bm = true → okAll b (l.map oneS) bm = true
  | [], _, _ => rfl
  | s :: r, bm, h => by
    unfold okAll at h
    rw [Bool.and_eq_true] at h
    obtain ⟨k1, k2, k3, k4⟩ := okSal_iff.1 h.1
    show (okSal b (oneS s) bm && okAll b (r.map oneS) s.minute) = true
    rw [one_ok h.2, Bool.and_true]
    exact okSal_iff.2 ⟨k1, show (1 : Int) ≤ 1 ∧ (1 : Int) ≤ 99 by omega, k3, k4⟩
theorem need_one {s : Sal} {r : List Sal} {m st : Int} : need (oneS s :: r) m st 0 = optW (s.minute != m) (.mi s.minute.toNat) ++ (optW (s.stock != st) (.na s.stock.toNat) ++ (.sh (s.price.toNat % 80) :: need r s.minute s.stock 0)) := rfl
theorem okAll_drop {b : Brd} {l : List Sal} (h : okAll b l 0 = true) : ∀ {i : Nat}, i ≤ l.length → okAll b (l.drop i) (bmAt l i) = true
  | 0, _ => h
  | i + 1, hi => by
    obtain ⟨s, hs⟩ := ex_get (show i < l.length by omega)
    have := okAll_drop h (i := i) (by omega)
    rw [okAll_at hs, Bool.and_eq_true] at this
    exact this.2
theorem okAll_mono {b : Brd} {l : List Sal} (h : okAll b l 0 = true) {i j : Nat} {s t : Sal} (hs : l[i]? = some s) (ht : l[j]? = some t) (hij : i < j) : s.minute ≤ t.minute := by
  have hi := (List.getElem?_eq_some_iff.1 hs).1
  have h1 := okAll_drop h (i := i) (by omega)
  rw [okAll_at hs, Bool.and_eq_true] at h1
  have e : (l.drop (i + 1))[j - (i + 1)]? = some t := by rw [List.getElem?_drop, show i + 1 + (j - (i + 1)) = j by omega]; exact ht
  obtain ⟨bm, h2, h3⟩ := okAll_get h1.2 e
  have h4 : bmAt l (i + 1) = s.minute := by show (l.getD i sal0).minute = _; rw [getD_of hs]
  have := (okSal_iff.1 h2).2.2.2
  omega
def ltP (a c : Nat) (s : Sal) : Prt := ⟨s.stock, 1, 1, ((s.price.toNat % 80 : Nat) : Int), false, s.minute, (a : Nat), (c : Nat)⟩
theorem lt_read {b : Brd} {l : List Sal} {a c : Nat} (h : checkT b = 0) (hl : l.length ≤ 8) (hok : okAll b l 0 = true) (hac : a ≤ c ∧ c ≤ 60) (hlen : (ltS b l a c).length ≤ 160) : readI b (ltS b l a c) = (l.map (ltP a c), 0) := by
  have hr := need_run (valid_of h) (l := l.map oneS) (w := { wrk0 with llo := (a : Nat), lhi := (c : Nat) }) (one_ok hok) (show (0 : Int) ≤ 0 by omega) (show (0 : Int) ≤ 0 by omega) (by simpa [wrk0] using hl) rfl
  have hla := la_step (b := b) hac hr.1
  have := read_words h hla.1 hlen
  rw [hla.2, decide_eq_false (by have := hr.2.2; omega), cond_false, hr.2.1] at this
  refine this.trans ?_
  show ([] ++ (l.map oneS).map _, (0 : Int)) = _
  rw [List.nil_append, List.map_map]; rfl
theorem lt_lo {R : List Prt} {m : Nat → Int} {c : Nat} (hR : ∀ k, k < R.length → (R.getD k prt0).minute - (R.getD k prt0).lhi = m k - (c : Nat)) (hm : ∀ i j, i < j → j < R.length → m i ≤ m j) (h0 : ∀ k, k < R.length → -9000 ≤ m k - (c : Nat)) : ∀ k, k < R.length → loU R (k + 1) = m k - (c : Nat)
  | 0, hk => by
    have := hR 0 hk
    have h1 := h0 0 hk
    unfold loU loU
    omega
  | k + 1, hk => by
    have ih := lt_lo hR hm h0 k (by omega)
    have := hR (k + 1) hk
    have h1 := hm k (k + 1) (by omega) hk
    rw [loU, ih]
    omega
theorem lt_hi {R : List Prt} {m : Nat → Int} {a : Nat} (hR : ∀ k, k < R.length → (R.getD k prt0).minute - (R.getD k prt0).llo = m k - (a : Nat)) {y : Int} (hy : y ≤ 9999) {i : Nat} : ∀ j, i + j ≤ R.length → (∀ k, i ≤ k → k < R.length → y ≤ m k - (a : Nat)) → y ≤ hiV R i j
  | 0, _, _ => by unfold hiV; omega
  | j + 1, hj, h => by
    have ih := lt_hi hR hy (i := i) j (by omega) h
    have h1 := hR (i + j) (by omega)
    have h2 := h (i + j) (by omega) (by omega)
    unfold hiV
    omega
theorem lt_min {b : Brd} {l : List Sal} {a c : Nat} (h : checkT b = 0) (hl : l.length ≤ 8) (hok : okAll b l 0 = true) (hac : a ≤ c ∧ c ≤ 60) (hlen : (ltS b l a c).length ≤ 160) : minutesI b (ltS b l a c) = (l.map (ltM a c), 0) := by
  have hr := lt_read h hl hok hac hlen
  have hg : ∀ k s, l[k]? = some s → (l.map (ltP a c)).getD k prt0 = ltP a c s := fun k s hs => getD_of (by rw [List.getElem?_map, hs]; rfl)
  have hmm : ∀ k, k < (l.map (ltP a c)).length → ∃ s, l[k]? = some s ∧ (l.getD k sal0).minute = s.minute := fun k hk => by
    obtain ⟨s, hs⟩ := ex_get (show k < l.length by simpa using hk)
    exact ⟨s, hs, by rw [getD_of hs]⟩
  have hmono : ∀ i j, i < j → j < (l.map (ltP a c)).length → (l.getD i sal0).minute ≤ (l.getD j sal0).minute := fun i j hij hj => by
    obtain ⟨s, hs, e1⟩ := hmm i (by omega)
    obtain ⟨t, ht, e2⟩ := hmm j hj
    rw [e1, e2]; exact okAll_mono hok hs ht hij
  have hbd : ∀ k, k < (l.map (ltP a c)).length → 0 ≤ (l.getD k sal0).minute ∧ (l.getD k sal0).minute ≤ 600 := fun k hk => by
    obtain ⟨s, hs, e1⟩ := hmm k hk
    rw [e1]; exact (okAll_bd hok hs).2.2.2
  have hlo : ∀ k, k < (l.map (ltP a c)).length → loU (l.map (ltP a c)) (k + 1) = (l.getD k sal0).minute - (c : Nat) := lt_lo (fun k hk => by
    obtain ⟨s, hs, e1⟩ := hmm k hk
    rw [hg k s hs, e1]; rfl) hmono (fun k hk => by have := hbd k hk; omega)
  have hhi : ∀ k, k < (l.map (ltP a c)).length → hiV (l.map (ltP a c)) k ((l.map (ltP a c)).length - k) = (l.getD k sal0).minute - (a : Nat) := fun k hk => by
    have hb := hbd k hk
    have h1 := lt_hi (R := l.map (ltP a c)) (m := fun k => (l.getD k sal0).minute) (a := a) (fun k hk => by
      obtain ⟨s, hs, e1⟩ := hmm k hk
      rw [hg k s hs]; show s.minute - (a : Nat) = _; rw [e1]) (y := (l.getD k sal0).minute - (a : Nat)) (by omega) (i := k + 1) ((l.map (ltP a c)).length - (k + 1)) (by omega) (fun q h1 h2 => by
      have := hmono k q (by omega) h2
      show _ ≤ (l.getD q sal0).minute - (a : Nat)
      omega)
    rw [show (l.map (ltP a c)).length - k = ((l.map (ltP a c)).length - (k + 1)) + 1 by omega, hiV_cons]
    obtain ⟨s, hs, e1⟩ := hmm k hk
    rw [hg k s hs]
    show min (s.minute - (a : Nat)) _ = _
    rw [e1] at h1 ⊢
    omega
  have htim : ∀ k, k < (l.map (ltP a c)).length → timI (l.map (ltP a c)) k = ltM a c (l.getD k sal0) := fun k hk => by
    unfold timI ltM
    rw [hlo k hk, hhi k hk]
  have hT : timesB (l.map (ltP a c)) = true := timesB_good fun k hk => by
    rw [htim k hk]
    show (l.getD k sal0).minute - (c : Nat) ≤ (l.getD k sal0).minute - (a : Nat)
    omega
  rw [minutes_tim (by rw [hr]), hr]
  show (bif timesB (l.map (ltP a c)) then (timL (l.map (ltP a c)) (l.map (ltP a c)).length, 0) else ([], 11)) = _
  rw [hT, cond_true]
  congr 1
  apply List.ext_getElem?
  intro k
  unfold timL
  by_cases hk : k < l.length
  · obtain ⟨s, hs⟩ := ex_get hk
    rw [List.getElem?_map, List.getElem?_range (by simpa using hk), List.getElem?_map, hs]
    show some (timI _ k) = some _
    rw [htim k (by simpa using hk), getD_of hs]
  · rw [List.getElem?_eq_none (by simp; omega), List.getElem?_eq_none (by simp; omega)]
theorem lt_len {b : Brd} {l : List Sal} {a c : Nat} (h : a ≤ c ∧ c ≤ 60) (hr : (spsW b (ltR l)).length ≤ 150) : (ltS b l a c).length ≤ 160 := by
  have h1 := dd_len2 (show a < 100 by omega)
  have h2 := dd_len2 (show c < 100 by omega)
  unfold ltS
  simp only [Wd.text, List.length_append, List.length_cons]; omega
theorem lt_str {b : Brd} {l : List Sal} (a c : Nat) : ltS b l a c = [76] ++ Lib.decDigits a ++ [45] ++ Lib.decDigits c ++ spsW b (ltR l) := by
  unfold ltS; simp [Wd.text]
theorem lt_text {b : Brd} {l : List Sal} {a c : Nat} : (ltS b l a c).length = 2 + (Lib.decDigits a).length + (Lib.decDigits c).length + (spsW b (ltR l)).length := by
  rw [lt_str]; simp only [List.length_append, List.length_cons, List.length_nil]; omega
theorem TapeLater_ok (b : Brd) (ws : List Int) (la wi by9 : Nat) (hN : NamesOK b) (hw : WdsOK ws) (hla : la ≤ 255) (hwi : wi ≤ 255) (hby : by9 ≤ 255) : PureAt Tryz.prog 11 [brdD b, wdsD ws, .int .u8 (la : Nat), .int .u8 (wi : Nat), .int .u8 (by9 : Nat)] (.bool true) := by
 refine PureAt.of_awp Tryz.func11 rfl (by kernel_rfl) (Nat.le_of_ble_eq_true rfl) fun Γ hn hl => ?_
 refine awp_seq (awp_region ?_)
 refine stepW (s_box 5 rfl rfl rfl (nb hn rfl) rfl rfl) fun b5 => ?_
 refine sq rfl rfl hn rfl (q_assign rfl rfl) ?_
 refine run_nil (aend_then (awp_seq (awp_seq (awp_region ?_))))
 refine sq rfl rfl hn rfl (q_loadAd rfl rfl (id := 5) rfl Tryz.underlying24 rfl sz24 rfl rfl sees0) ?_
 refine stepW (s_call [] (fun _ => ready_ok b hN) rfl (guard_none rfl) rfl (nb hn rfl) (fun _ => trivial) rfl rfl (.refl _)) fun _ => ?_
 refine sq rfl rfl hn rfl (q_not rfl rfl) ?_
 refine run_nil (aend_then ?_)
 refine awp_cond rfl (fun hb0 => ?_) (fun hb0 => ?_)
 ·
  refine awp_seq (awp_region ?_)
  refine stepW (s_call [] (fun _ => awake_ok) rfl (guard_none rfl) rfl (nb hn rfl) (fun _ => trivial) rfl rfl (.refl _)) fun _ => ?_
  refine sq rfl rfl hn rfl (q_assign rfl rfl) ?_
  refine run_nil (aend_then (awp_ret (aend_then_ret ?_)))
  exact ret_1 (.inl rfl) hl rfl (.tmp rfl)
 ·
  obtain ⟨h0, hb7⟩ := ready_is (b := b) (by simpa using hb0)
  have v := valid_of h0
  have hso := soldL_ok v hw
  have hl7 := hso.l7
  have hn4 := v.n4
  have htot := need_len v (st := -1) (one_ok hso.ok) (by omega)
  have hmlen : ((soldL b ws).map oneS).length = (soldL b ws).length := List.length_map _
  have m1 := Nat.mod_lt la (show 0 < 20 by omega)
  have m2 := Nat.mod_lt wi (show 0 < 20 by omega)
  have m3 := Nat.mod_lt by9 (show 0 < 20 by omega)
  have d1 := dd_len (show la % 20 < 1000 by omega)
  have d2 := dd_len (show la % 20 + wi % 20 < 1000 by omega)
  have d3 := dd_len (show la % 20 + by9 % 20 < 1000 by omega)
  have d4 := dd_len (show la % 20 + wi % 20 + by9 % 20 < 1000 by omega)
  have htl : (spsW b (ltR (soldL b ws))).length ≤ 17 * (soldL b ws).length := by rw [← hmlen]; exact htot
  refine awp_skip (aend_then (awp_seq (awp_region ?_)))
  refine sq rfl rfl hn rfl (q_loadAd rfl rfl (id := 5) rfl Tryz.underlying24 rfl sz24 rfl rfl sees0) ?_
  refine sq rfl rfl hn rfl (q_move rfl rfl) ?_
  refine stepW (s_call [] (fun _ => Sold_ok b ws v hw) rfl (guard_none rfl) rfl (nb hn rfl) (fun _ => trivial) rfl rfl (.refl _)) fun _ => ?_
  refine sq rfl rfl hn rfl (q_assign rfl rfl) ?_
  refine run_nil (aend_then (awp_seq (awp_region ?_)))
  refine sq rfl rfl hn rfl (q_assign rfl rfl) ?_
  refine run_nil (aend_then (awp_seq (awp_region ?_)))
  refine sq rfl rfl hn rfl (q_assign rfl rfl) ?_
  refine sq rfl rfl hn rfl (q_assign rfl rfl) ?_
  refine run_nil (aend_then (awp_seq (awp_seq (awp_region ?_))))
  refine sq rfl rfl hn rfl (q_assign rfl rfl) ?_
  refine run_nil (aend_then (awp_block ?_))
  refine awp_loop_on (ι := {x : Nat × List UInt8 × Int × Int // x.1 ≤ (soldL b ws).length ∧ x.2.1 ++ spsW b (need (((soldL b ws).drop x.1).map oneS) x.2.2.1 x.2.2.2 0) = spsW b (ltR (soldL b ws)) ∧ okAll b ((soldL b ws).drop x.1) x.2.2.1 = true ∧ 0 ≤ x.2.2.1}) (fun x => (15, true, .d (.int .i64 (x.1.1 : Nat))) :: (12, true, .d (strD x.1.2.1)) :: (13, true, .d (.int .i64 x.1.2.2.1)) :: (14, true, .d (.int .i64 x.1.2.2.2)) :: anys [31, 32, 33, 34, 37, 38, 39, 40, 41, 42, 43, 44, 45, 46, 47, 48, 49, 50, 51, 52, 53, 54, 55, 56, 57, 58, 59, 60, 61, 62, 63, 64, 65, 66, 67, 68, 69, 70, 71, 72, 73, 74, 75, 76, 77, 78, 79, 80, 81, 82, 83, 84, 85, 86, 87, 88, 89, 90, 91, 92, 93, 94, 95, 96, 97, 98, 99, 100, 101, 102, 35, 36]) (fun x => []) (fun x => (soldL b ws).length - x.1.1) ⟨(0, [], 0, -1), Nat.zero_le _, rfl, hso.ok, Int.le_refl _⟩ ⟨.inl rfl, .inl rfl, .inl rfl, .inl rfl, holdT_anys _⟩ trivial ?_
  rintro ⟨⟨i, out, m, sk⟩, hi, hgo, hok, hm0⟩
  dsimp only
  dsimp only at hi hgo hok hm0
  refine awp_seq (awp_seq (awp_region ?_))
  refine sq rfl rfl hn rfl (q_move rfl rfl) ?_
  refine sq rfl rfl hn rfl (q_move rfl rfl) ?_
  refine sq rfl rfl hn rfl (q_len rfl rfl Tryz.underlying70) ?_
  refine sq rfl rfl hn rfl (q_lss rfl rfl rfl) ?_
  refine run_nil (aend_then ?_)
  refine awp_cond rfl (fun hb1 => ?_) (fun hb1 => ?_)
  ·
   have hil : i < (soldL b ws).length := by simp at hb1; omega
   obtain ⟨sl, hsl⟩ := ex_get hil
   rw [drop_get hsl, okAll, Bool.and_eq_true] at hok
   obtain ⟨hoks, hokr⟩ := hok
   obtain ⟨k1, k2, k3, k4⟩ := okSal_iff.1 hoks
   obtain ⟨k, hk⟩ : ∃ k : Nat, sl.stock = k := ⟨sl.stock.toNat, by omega⟩
   obtain ⟨st, hst⟩ := ex_get (show k < b.stocks.length by omega)
   obtain ⟨mn, hmn⟩ : ∃ n : Nat, sl.minute = n := ⟨sl.minute.toNat, by omega⟩
   obtain ⟨nn, hnn⟩ : ∃ n : Nat, sl.number = n := ⟨sl.number.toNat, by omega⟩
   obtain ⟨pn, hpn⟩ : ∃ n : Nat, sl.price = n := ⟨sl.price.toNat, by omega⟩
   have hneed : need (oneS sl :: ((soldL b ws).drop (i + 1)).map oneS) m sk 0 = optW (sl.minute != m) (.mi sl.minute.toNat) ++ (optW (sl.stock != sk) (.na sl.stock.toNat) ++ (.sh (pn % 80) :: need (((soldL b ws).drop (i + 1)).map oneS) sl.minute sl.stock 0)) := by rw [need_one, hpn]; rfl
   have hlen := congrArg List.length hgo
   rw [drop_get hsl, List.map_cons, hneed] at hlen
   simp only [spsW_app, spsW_cons, List.length_append, List.length_cons] at hlen
   have dn := dd_len (show nn < 1000 by omega)
   have dp := dd_len (show pn % 80 / 8 < 1000 by omega)
   have dq := dd_len (show pn % 80 % 8 < 1000 by omega)
   have dr := dd_len (show pn / 8 < 1000 by omega)
   have dna := nmd_all (name_ok v (show k < b.stocks.length by omega))
   rw [getD_of hst] at dna
   have dm := dd_len (show mn < 1000 by omega)
   have dz := dd_len (show pn % 8 < 1000 by omega)
   refine awp_skip (aend_then (awp_seq (awp_block (awp_seq (awp_seq (awp_region ?_))))))
   refine sq rfl rfl hn rfl (q_move rfl rfl) ?_
   refine sq rfl rfl hn rfl (q_move rfl rfl) ?_
   refine sq rfl rfl hn rfl (q_index (i := i) rfl rfl rfl Tryz.underlying70 sz91 rfl (mget hsl)) ?_
   refine sq rfl rfl hn rfl (q_fieldAddrp rfl rfl Tryz.underlying91 rfl sz3 rfl) ?_
   refine sq rfl rfl hn rfl (q_loadp rfl rfl Tryz.underlying3 rfl seesF0) ?_
   refine sq rfl rfl hn rfl (q_move rfl rfl) ?_
   refine sq rfl rfl hn rfl (q_neq rfl rfl rfl) ?_
   refine run_nil (aend_then ?_)
   refine awp_join_on (e := .normal) (ι := Unit) (fun u0 => (12, true, .d (strD (out ++ spsW b (optW (sl.minute != m) (.mi sl.minute.toNat))))) :: anys [44, 45, 46, 47, 48, 49, 50, 51, 52]) (fun u0 => []) (fun hJ2 => ?_) ?_
   ·
    refine awp_cond rfl (fun hb2 => ?_) (fun hb2 => ?_)
    ·
     have q1 : (sl.minute != m) = true := hb2
     have e1 : spsW b (optW (sl.minute != m) (.mi sl.minute.toNat)) = [32, 64] ++ Lib.decDigits mn := by rw [spsW_o, q1, hmn]; rfl
     refine awp_region ?_
     refine sq rfl rfl hn rfl (q_move rfl rfl) ?_
     refine sq rfl rfl hn rfl (q_move rfl rfl) ?_
     refine sq rfl rfl hn rfl (q_move rfl rfl) ?_
     refine sq rfl rfl hn rfl (q_index (i := i) rfl rfl rfl Tryz.underlying70 sz91 rfl (mget hsl)) ?_
     refine sq rfl rfl hn rfl (q_fieldAddrp rfl rfl Tryz.underlying91 rfl sz3 rfl) ?_
     refine sq rfl rfl hn rfl (q_loadp rfl rfl Tryz.underlying3 rfl seesF0) ?_
     refine stepW (s_call [] (fun _ => (by rw [hmn]; exact Text_ok mn (by omega))) rfl (guard_none rfl) rfl (nb hn rfl) (fun _ => trivial) rfl rfl (.refl _)) fun _ => ?_
     refine sq rfl rfl hn rfl (q_addS rfl rfl rfl (by simp only [List.length_append, List.length_cons, List.length_nil]; omega) rfl) ?_
     refine sq rfl rfl hn rfl (q_addS rfl rfl rfl (by simp only [List.length_append, List.length_cons, List.length_nil]; omega) rfl) ?_
     refine sq rfl rfl hn rfl (q_assign rfl rfl) ?_
     refine run_nil ?_
     exact aend_join_on hJ2 () ⟨.inl (congrArg (fun z => some (true, TV.d (strD z))) (by rw [e1])), holdT_anys _⟩ trivial (by repeat (first | exact kr _ | refine kc rfl ?_)) (by repeat (first | exact kr _ | refine kc rfl ?_))
    ·
     have q1 : (sl.minute != m) = false := hb2
     have e1 : spsW b (optW (sl.minute != m) (.mi sl.minute.toNat)) = [] := by rw [spsW_o, q1]; rfl
     refine awp_skip ?_
     exact aend_join_on hJ2 () ⟨.inl (congrArg (fun z => some (true, TV.d (strD z))) (by rw [e1, List.append_nil])), holdT_anys _⟩ trivial (by repeat (first | exact kr _ | refine kc rfl ?_)) (by repeat (first | exact kr _ | refine kc rfl ?_))
   ·
    rintro _
    refine aend_then (awp_seq (awp_seq (awp_region ?_)))
    refine sq rfl rfl hn rfl (q_move rfl rfl) ?_
    refine sq rfl rfl hn rfl (q_move rfl rfl) ?_
    refine sq rfl rfl hn rfl (q_index (i := i) rfl rfl rfl Tryz.underlying70 sz91 rfl (mget hsl)) ?_
    refine sq rfl rfl hn rfl (q_fieldAddrp rfl rfl Tryz.underlying91 rfl sz3 rfl) ?_
    refine sq rfl rfl hn rfl (q_loadp rfl rfl Tryz.underlying3 rfl seesF0) ?_
    refine sq rfl rfl hn rfl (q_move rfl rfl) ?_
    refine sq rfl rfl hn rfl (q_neq rfl rfl rfl) ?_
    refine run_nil (aend_then ?_)
    refine awp_join_on (e := .normal) (ι := Unit) (fun u0 => (12, true, .d (strD ((out ++ spsW b (optW (sl.minute != m) (.mi sl.minute.toNat))) ++ spsW b (optW (sl.stock != sk) (.na sl.stock.toNat))))) :: anys [60, 61, 62, 63, 64, 65, 66, 67, 68, 69, 70, 71, 72]) (fun u0 => []) (fun hJ3 => ?_) ?_
    ·
     refine awp_cond rfl (fun hb3 => ?_) (fun hb3 => ?_)
     ·
      have q2 : (sl.stock != sk) = true := hb3
      have e2 : spsW b (optW (sl.stock != sk) (.na sl.stock.toNat)) = [32] ++ st.name := by rw [spsW_o, q2, hk]; show 32 :: (b.stocks.getD k stk0).name = _; rw [getD_of hst]; rfl
      refine d_start (W := fun b => b ≠ b5) fmo ?_
      refine d1q (i := 0) rfl (by kernel_rfl) (fun _ _ _ _ h => h) rfl rfl hn rfl (q_move rfl rfl) ?_
      refine d1q (i := 1) rfl (by kernel_rfl) (fun _ _ _ _ h => h) rfl rfl hn rfl (q_fieldAddr rfl rfl Tryz.underlying24 rfl sz22) ?_
      refine d1q (i := 2) rfl (by kernel_rfl) (fun _ _ _ _ h => h) rfl rfl hn rfl (q_load rfl rfl (id := 5) rfl Tryz.underlying22 rfl rfl (seesA (by simp))) ?_
      refine d1q (i := 3) rfl (by kernel_rfl) (fun _ _ _ _ h => h) rfl rfl hn rfl (q_move rfl rfl) ?_
      refine d1q (i := 4) rfl (by kernel_rfl) (fun _ _ _ _ h => h) rfl rfl hn rfl (q_move rfl rfl) ?_
      refine d1q (i := 5) rfl (by kernel_rfl) (fun _ _ _ _ h => h) rfl rfl hn rfl (q_index (i := i) rfl rfl rfl Tryz.underlying70 sz91 rfl (mget hsl)) ?_
      refine d1q (i := 6) rfl (by kernel_rfl) (fun _ _ _ _ h => h) rfl rfl hn rfl (q_fieldAddrp rfl rfl Tryz.underlying91 rfl sz3 rfl) ?_
      refine d1q (i := 7) rfl (by kernel_rfl) (fun _ _ _ _ h => h) rfl rfl hn rfl (q_loadp rfl rfl Tryz.underlying3 rfl seesFA) ?_
      refine d1q (i := 8) rfl (by kernel_rfl) (fun _ _ _ _ h => h) rfl rfl hn rfl (q_index (i := k) rfl rfl rfl Tryz.underlying22 sz98 hk (mget hst)) ?_
      refine d1q (i := 9) rfl (by kernel_rfl) (fun _ _ _ _ h => h) rfl rfl hn rfl (q_fieldAddrp rfl rfl Tryz.underlying98 rfl sz9 rfl) ?_
      refine d1q (i := 10) rfl (by kernel_rfl) (fun _ _ _ _ h => h) rfl rfl hn rfl (q_loadp rfl rfl Tryz.underlying9 rfl seesFA) ?_
      refine d1q (i := 11) rfl (by kernel_rfl) (fun _ _ _ _ h => h) rfl rfl hn rfl (q_addS rfl rfl rfl (by simp only [List.length_append, List.length_cons, List.length_nil]; omega) rfl) ?_
      refine d1q (i := 12) rfl (by kernel_rfl) (fun _ _ _ _ h => h) rfl rfl hn rfl (q_addS rfl rfl rfl (by simp only [List.length_append, List.length_cons, List.length_nil]; omega) rfl) ?_
      refine d1q (i := 13) rfl (by kernel_rfl) (fun _ _ _ _ h => h) rfl rfl hn rfl (q_assign rfl rfl) ?_
      refine d1_of_d2 ?_
      refine d2_done (by kernel_rfl) ?_
      exact aend_join_on hJ3 () ⟨.inl (congrArg (fun z => some (true, TV.d (strD z))) (by rw [e2])), holdT_anys _⟩ trivial (by repeat (first | exact kr _ | refine kc rfl ?_)) (by repeat (first | exact kr _ | refine kc rfl ?_))
     ·
      have q2 : (sl.stock != sk) = false := hb3
      have e2 : spsW b (optW (sl.stock != sk) (.na sl.stock.toNat)) = [] := by rw [spsW_o, q2]; rfl
      refine awp_skip ?_
      exact aend_join_on hJ3 () ⟨.inl (congrArg (fun z => some (true, TV.d (strD z))) (by rw [e2, List.append_nil])), holdT_anys _⟩ trivial (by repeat (first | exact kr _ | refine kc rfl ?_)) (by repeat (first | exact kr _ | refine kc rfl ?_))
    ·
     rintro _
     refine aend_then (awp_seq ?_)
     refine d_start (W := fun b => True) fmo ?_
     refine d1q (i := 0) rfl (by kernel_rfl) (fun _ _ _ _ h => h) rfl rfl hn rfl (q_move rfl rfl) ?_
     refine d1q (i := 1) rfl (by kernel_rfl) (fun _ _ _ _ h => h) rfl rfl hn rfl (q_move rfl rfl) ?_
     refine d1q (i := 2) rfl (by kernel_rfl) (fun _ _ _ _ h => h) rfl rfl hn rfl (q_index (i := i) rfl rfl rfl Tryz.underlying70 sz91 rfl (mget hsl)) ?_
     refine d1q (i := 3) rfl (by kernel_rfl) (fun _ _ _ _ h => h) rfl rfl hn rfl (q_fieldAddrp rfl rfl Tryz.underlying91 rfl sz3 rfl) ?_
     refine d1q (i := 4) rfl (by kernel_rfl) (fun _ _ _ _ h => h) rfl rfl hn rfl (q_loadp rfl rfl Tryz.underlying3 rfl seesFA) ?_
     refine d1q (i := 5) rfl (by kernel_rfl) (fun _ _ _ _ h => h) rfl rfl hn rfl (q_move rfl rfl) ?_
     refine d1q (i := 6) rfl (by kernel_rfl) (fun _ _ _ _ h => h) rfl rfl hn rfl (q_move rfl rfl) ?_
     refine d1q (i := 7) rfl (by kernel_rfl) (fun _ _ _ _ h => h) rfl rfl hn rfl (q_index (i := i) rfl rfl rfl Tryz.underlying70 sz91 rfl (mget hsl)) ?_
     refine d1q (i := 8) rfl (by kernel_rfl) (fun _ _ _ _ h => h) rfl rfl hn rfl (q_fieldAddrp rfl rfl Tryz.underlying91 rfl sz3 rfl) ?_
     refine d1q (i := 9) rfl (by kernel_rfl) (fun _ _ _ _ h => h) rfl rfl hn rfl (q_loadp rfl rfl Tryz.underlying3 rfl seesFA) ?_
     refine d1q (i := 10) rfl (by kernel_rfl) (fun _ _ _ _ h => h) rfl rfl hn rfl (q_assign rfl rfl) ?_
     refine d1q (i := 11) rfl (by kernel_rfl) (fun _ _ _ _ h => h) rfl rfl hn rfl (q_assign rfl rfl) ?_
     refine d1_of_d2 ?_
     refine d2_done (by kernel_rfl) ?_
     refine aend_then ?_
     refine d_start (W := fun b => True) fmo ?_
     refine d1q (i := 0) rfl (by kernel_rfl) (fun _ _ _ _ h => h) rfl rfl hn rfl (q_move rfl rfl) ?_
     refine d1q (i := 1) rfl (by kernel_rfl) (fun _ _ _ _ h => h) rfl rfl hn rfl (q_move rfl rfl) ?_
     refine d1q (i := 2) rfl (by kernel_rfl) (fun _ _ _ _ h => h) rfl rfl hn rfl (q_move rfl rfl) ?_
     refine d1q (i := 3) rfl (by kernel_rfl) (fun _ _ _ _ h => h) rfl rfl hn rfl (q_index (i := i) rfl rfl rfl Tryz.underlying70 sz91 rfl (mget hsl)) ?_
     refine d1q (i := 4) rfl (by kernel_rfl) (fun _ _ _ _ h => h) rfl rfl hn rfl (q_fieldAddrp rfl rfl Tryz.underlying91 rfl sz3 rfl) ?_
     refine d1q (i := 5) rfl (by kernel_rfl) (fun _ _ _ _ h => h) rfl rfl hn rfl (q_loadp rfl rfl Tryz.underlying3 rfl seesFA) ?_
     refine d1q (i := 6) rfl (by kernel_rfl) (fun _ _ _ _ h => h) rfl rfl hn rfl (q_rem rfl rfl rfl (r := ((pn % 80 : Nat) : Int)) (by omega) (by rw [hpn]; exact modN (a := pn) (b := 80) (by omega))) ?_
     refine d1q (i := 7) rfl (by kernel_rfl) (fun _ _ _ _ h => h) rfl rfl hn rfl (q_quo rfl rfl rfl (r := ((pn % 80 / 8 : Nat) : Int)) (by omega) (quoN (a := pn % 80) (b := 8) (by omega) (by omega))) ?_
     refine d1q (i := 11) rfl (by kernel_rfl) (fun _ _ _ _ h => h) rfl rfl hn rfl (q_move rfl rfl) ?_
     refine d1q (i := 12) rfl (by kernel_rfl) (fun _ _ _ _ h => h) rfl rfl hn rfl (q_move rfl rfl) ?_
     refine d1q (i := 13) rfl (by kernel_rfl) (fun _ _ _ _ h => h) rfl rfl hn rfl (q_index (i := i) rfl rfl rfl Tryz.underlying70 sz91 rfl (mget hsl)) ?_
     refine d1q (i := 14) rfl (by kernel_rfl) (fun _ _ _ _ h => h) rfl rfl hn rfl (q_fieldAddrp rfl rfl Tryz.underlying91 rfl sz3 rfl) ?_
     refine d1q (i := 15) rfl (by kernel_rfl) (fun _ _ _ _ h => h) rfl rfl hn rfl (q_loadp rfl rfl Tryz.underlying3 rfl seesFA) ?_
     refine d1q (i := 16) rfl (by kernel_rfl) (fun _ _ _ _ h => h) rfl rfl hn rfl (q_rem rfl rfl rfl (r := ((pn % 8 : Nat) : Int)) (by omega) (by rw [hpn]; exact modN (a := pn) (b := 8) (by omega))) ?_
     refine d1_of_d2 ?_
     refine d2_one (i := 8) (by kernel_rfl) rfl (s_call [] (fun _ => Text_ok (pn % 80 / 8) (by omega)) rfl (guard_none rfl) rfl (nb hn rfl) (fun _ => trivial) rfl rfl (.refl _)) fun _ => ?_
     refine d2_of_d1 ?_
     refine d1q (i := 9) rfl (by kernel_rfl) (fun _ _ _ _ h => h) rfl rfl hn rfl (q_addS rfl rfl rfl (by simp only [List.length_append, List.length_cons, List.length_nil]; omega) rfl) ?_
     refine d1q (i := 10) rfl (by kernel_rfl) (fun _ _ _ _ h => h) rfl rfl hn rfl (q_addS rfl rfl rfl (by simp only [List.length_append, List.length_cons, List.length_nil]; omega) rfl) ?_
     refine d1_of_d2 ?_
     refine d2_one (i := 17) (by kernel_rfl) rfl (s_call [] (fun _ => Text_ok (pn % 8) (by omega)) rfl (guard_none rfl) rfl (nb hn rfl) (fun _ => trivial) rfl rfl (.refl _)) fun _ => ?_
     refine d2_of_d1 ?_
     refine d1q (i := 18) rfl (by kernel_rfl) (fun _ _ _ _ h => h) rfl rfl hn rfl (q_addS rfl rfl rfl (by simp only [List.length_append, List.length_cons, List.length_nil]; omega) rfl) ?_
     refine d1q (i := 19) rfl (by kernel_rfl) (fun _ _ _ _ h => h) rfl rfl hn rfl (q_addS rfl rfl rfl (by simp only [List.length_append, List.length_cons, List.length_nil]; omega) rfl) ?_
     refine d1q (i := 20) rfl (by kernel_rfl) (fun _ _ _ _ h => h) rfl rfl hn rfl (q_assign rfl rfl) ?_
     refine d1_of_d2 ?_
     refine d2_done (by kernel_rfl) ?_
     refine aend_block (aend_then (awp_region ?_))
     refine sq rfl rfl hn rfl (q_move rfl rfl) ?_
     refine sq rfl rfl hn rfl (q_add rfl rfl rfl (r := ((i + 1 : Nat) : Int)) (i64w (by omega) (by omega))) ?_
     refine sq rfl rfl hn rfl (q_assign rfl rfl) ?_
     refine run_nil ?_
     exact aend_round_on ⟨(i + 1, ((out ++ spsW b (optW (sl.minute != m) (.mi sl.minute.toNat))) ++ spsW b (optW (sl.stock != sk) (.na sl.stock.toNat))) ++ (32 :: ((Wd.sh (pn % 80)).text b)), sl.minute, sl.stock), by simp only; omega, by simp only; rw [← hgo, drop_get hsl, List.map_cons, hneed]; simp only [spsW_app, spsW_cons, List.append_assoc, List.cons_append], hokr, by simp only; omega⟩ ⟨.inl rfl, .inl (congrArg (fun z => some (true, TV.d (strD z))) (by show _ = ((out ++ spsW b (optW (sl.minute != m) (.mi sl.minute.toNat))) ++ spsW b (optW (sl.stock != sk) (.na sl.stock.toNat))) ++ (32 :: ((Wd.sh (pn % 80)).text b)); simp only [Wd.text, show pn % 80 % 8 = pn % 8 by omega]; simp)), .inl rfl, .inl rfl, holdT_anys _⟩ trivial (by simp only; omega) (by repeat (first | exact kr _ | refine kc rfl ?_)) (by repeat (first | exact kr _ | refine kc rfl ?_))
  ·
   obtain rfl : i = (soldL b ws).length := by simp at hb1; omega
   rw [List.drop_length] at hgo
   have hgo2 : out = spsW b (ltR (soldL b ws)) := by rw [← hgo]; show out = out ++ []; simp
   rw [hgo2]
   refine awp_exit (aend_then_exit (aend_then_exit (aend_block_exit (aend_then (awp_seq (awp_region ?_))))))
   refine sq rfl rfl hn rfl (q_move rfl rfl) ?_
   refine sq rfl rfl hn rfl (q_conv rfl rfl Tryz.underlying5 Tryz.underlying3 (i64w (by omega) rfl)) ?_
   refine sq rfl rfl hn rfl (q_rem rfl rfl rfl (r := ((la % 20 : Nat) : Int)) (by omega) (modN (a := la) (b := 20) (by omega))) ?_
   refine sq rfl rfl hn rfl (q_assign rfl rfl) ?_
   refine run_nil (aend_then (awp_seq (awp_region ?_)))
   refine sq rfl rfl hn rfl (q_move rfl rfl) ?_
   refine sq rfl rfl hn rfl (q_move rfl rfl) ?_
   refine sq rfl rfl hn rfl (q_conv rfl rfl Tryz.underlying5 Tryz.underlying3 (i64w (by omega) rfl)) ?_
   refine sq rfl rfl hn rfl (q_rem rfl rfl rfl (r := ((wi % 20 : Nat) : Int)) (by omega) (modN (a := wi) (b := 20) (by omega))) ?_
   refine sq rfl rfl hn rfl (q_add rfl rfl rfl (r := ((la % 20 + wi % 20 : Nat) : Int)) (i64w (by omega) (by omega))) ?_
   refine sq rfl rfl hn rfl (q_assign rfl rfl) ?_
   refine run_nil (aend_then (awp_seq (awp_region ?_)))
   refine sq rfl rfl hn rfl (q_move rfl rfl) ?_
   refine sq rfl rfl hn rfl (q_conv rfl rfl Tryz.underlying5 Tryz.underlying3 (i64w (by omega) rfl)) ?_
   refine sq rfl rfl hn rfl (q_rem rfl rfl rfl (r := ((by9 % 20 : Nat) : Int)) (by omega) (modN (a := by9) (b := 20) (by omega))) ?_
   refine sq rfl rfl hn rfl (q_assign rfl rfl) ?_
   refine run_nil (aend_then (awp_seq (awp_region ?_)))
   refine sq rfl rfl hn rfl (q_loadAd rfl rfl (id := 5) rfl Tryz.underlying24 rfl sz24 rfl rfl sees0) ?_
   refine stepW (s_call [] (fun _ => Board_ok b (by omega)) rfl (guard_none rfl) rfl (nb hn rfl) (fun _ => trivial) rfl rfl (.refl _)) fun _ => ?_
   refine sq rfl rfl hn rfl (q_move rfl rfl) ?_
   refine stepW (s_call [] (fun _ => Text_ok (la % 20) (by omega)) rfl (guard_none rfl) rfl (nb hn rfl) (fun _ => trivial) rfl rfl (.refl _)) fun _ => ?_
   refine sq rfl rfl hn rfl (q_addS rfl rfl rfl (by simp only [List.length_append, List.length_cons, List.length_nil]; omega) rfl) ?_
   refine sq rfl rfl hn rfl (q_addS rfl rfl rfl (by simp only [List.length_append, List.length_cons, List.length_nil]; omega) rfl) ?_
   refine sq rfl rfl hn rfl (q_move rfl rfl) ?_
   refine stepW (s_call [] (fun _ => Text_ok (la % 20 + wi % 20) (by omega)) rfl (guard_none rfl) rfl (nb hn rfl) (fun _ => trivial) rfl rfl (.refl _)) fun _ => ?_
   refine sq rfl rfl hn rfl (q_addS rfl rfl rfl (by simp only [List.length_append, List.length_cons, List.length_nil]; omega) rfl) ?_
   refine sq rfl rfl hn rfl (q_move rfl rfl) ?_
   refine sq rfl rfl hn rfl (q_addS rfl rfl rfl (by simp only [List.length_append, List.length_cons, List.length_nil]; omega) rfl) ?_
   refine stepW (s_call [] (fun _ => (show PureAt Tryz.prog 24 [brdD b, strD ([76] ++ Lib.decDigits (la % 20) ++ [45] ++ Lib.decDigits (la % 20 + wi % 20) ++ spsW b (ltR (soldL b ws)))] _ from (lt_str (b := b) (la % 20) (la % 20 + wi % 20)) ▸ Minutes_ok b (ltS b (soldL b ws) (la % 20) (la % 20 + wi % 20)) hN (by have := lt_text (b := b) (l := soldL b ws) (a := la % 20) (c := la % 20 + wi % 20); omega))) rfl (guard_none rfl) rfl (nb hn rfl) (fun _ => trivial) rfl rfl (.refl _)) fun _ => ?_
   refine sq rfl rfl hn rfl (q_move rfl rfl) ?_
   refine sq rfl rfl hn rfl (q_extractd rfl rfl rfl) ?_
   refine sq rfl rfl hn rfl (q_extractd rfl rfl rfl) ?_
   refine sq rfl rfl hn rfl (q_assign rfl rfl) ?_
   refine sq rfl rfl hn rfl (q_assign rfl rfl) ?_
   refine run_nil (aend_then (awp_seq (awp_region ?_)))
   refine sq rfl rfl hn rfl (q_loadAd rfl rfl (id := 5) rfl Tryz.underlying24 rfl sz24 rfl rfl sees0) ?_
   refine stepW (s_call [] (fun _ => Board_ok b (by omega)) rfl (guard_none rfl) rfl (nb hn rfl) (fun _ => trivial) rfl rfl (.refl _)) fun _ => ?_
   refine sq rfl rfl hn rfl (q_move rfl rfl) ?_
   refine sq rfl rfl hn rfl (q_move rfl rfl) ?_
   refine sq rfl rfl hn rfl (q_add rfl rfl rfl (r := ((la % 20 + by9 % 20 : Nat) : Int)) (i64w (by omega) (by omega))) ?_
   refine stepW (s_call [] (fun _ => Text_ok (la % 20 + by9 % 20) (by omega)) rfl (guard_none rfl) rfl (nb hn rfl) (fun _ => trivial) rfl rfl (.refl _)) fun _ => ?_
   refine sq rfl rfl hn rfl (q_addS rfl rfl rfl (by simp only [List.length_append, List.length_cons, List.length_nil]; omega) rfl) ?_
   refine sq rfl rfl hn rfl (q_addS rfl rfl rfl (by simp only [List.length_append, List.length_cons, List.length_nil]; omega) rfl) ?_
   refine sq rfl rfl hn rfl (q_move rfl rfl) ?_
   refine sq rfl rfl hn rfl (q_move rfl rfl) ?_
   refine sq rfl rfl hn rfl (q_add rfl rfl rfl (r := ((la % 20 + wi % 20 + by9 % 20 : Nat) : Int)) (i64w (by omega) (by omega))) ?_
   refine stepW (s_call [] (fun _ => Text_ok (la % 20 + wi % 20 + by9 % 20) (by omega)) rfl (guard_none rfl) rfl (nb hn rfl) (fun _ => trivial) rfl rfl (.refl _)) fun _ => ?_
   refine sq rfl rfl hn rfl (q_addS rfl rfl rfl (by simp only [List.length_append, List.length_cons, List.length_nil]; omega) rfl) ?_
   refine sq rfl rfl hn rfl (q_move rfl rfl) ?_
   refine sq rfl rfl hn rfl (q_addS rfl rfl rfl (by simp only [List.length_append, List.length_cons, List.length_nil]; omega) rfl) ?_
   refine stepW (s_call [] (fun _ => (show PureAt Tryz.prog 24 [brdD b, strD ([76] ++ Lib.decDigits (la % 20 + by9 % 20) ++ [45] ++ Lib.decDigits (la % 20 + wi % 20 + by9 % 20) ++ spsW b (ltR (soldL b ws)))] _ from (lt_str (b := b) (la % 20 + by9 % 20) (la % 20 + wi % 20 + by9 % 20)) ▸ Minutes_ok b (ltS b (soldL b ws) (la % 20 + by9 % 20) (la % 20 + wi % 20 + by9 % 20)) hN (by have := lt_text (b := b) (l := soldL b ws) (a := la % 20 + by9 % 20) (c := la % 20 + wi % 20 + by9 % 20); omega))) rfl (guard_none rfl) rfl (nb hn rfl) (fun _ => trivial) rfl rfl (.refl _)) fun _ => ?_
   refine sq rfl rfl hn rfl (q_move rfl rfl) ?_
   refine sq rfl rfl hn rfl (q_extractd rfl rfl rfl) ?_
   refine sq rfl rfl hn rfl (q_extractd rfl rfl rfl) ?_
   refine sq rfl rfl hn rfl (q_assign rfl rfl) ?_
   refine sq rfl rfl hn rfl (q_assign rfl rfl) ?_
   refine run_nil (aend_then (awp_seq (awp_seq (awp_region ?_))))
   refine sq rfl rfl hn rfl (q_move rfl rfl) ?_
   refine sq rfl rfl hn rfl (q_lenS rfl rfl Tryz.underlying9) ?_
   refine sq rfl rfl hn rfl (q_gtr rfl rfl rfl) ?_
   refine run_nil (aend_then ?_)
   refine awp_cond rfl (fun hb4 => ?_) (fun hb4 => ?_)
   ·
    refine awp_seq (awp_region ?_)
    refine stepW (s_call [] (fun _ => awake_ok) rfl (guard_none rfl) rfl (nb hn rfl) (fun _ => trivial) rfl rfl (.refl _)) fun _ => ?_
    refine sq rfl rfl hn rfl (q_assign rfl rfl) ?_
    refine run_nil (aend_then (awp_ret (aend_then_ret ?_)))
    exact ret_1 (.inl rfl) hl rfl (.tmp rfl)
   ·
    have hr150 : (spsW b (ltR (soldL b ws))).length ≤ 150 := by have h := hb4; simp only [decide_eq_false_iff_not, str_size] at h; omega
    have hm1 := lt_min (b := b) (l := soldL b ws) (a := la % 20) (c := la % 20 + wi % 20) h0 (by omega) hso.ok (by omega) (lt_len (by omega) hr150)
    have hm2 := lt_min (b := b) (l := soldL b ws) (a := la % 20 + by9 % 20) (c := la % 20 + wi % 20 + by9 % 20) h0 (by omega) hso.ok (by omega) (lt_len (by omega) hr150)
    rw [lt_str] at hm1 hm2
    rw [hm1, hm2]
    refine awp_skip (aend_then (awp_seq (awp_seq (awp_region ?_))))
    refine sq rfl rfl hn rfl (q_move rfl rfl) ?_
    refine sq rfl rfl hn rfl (q_neq rfl rfl rfl) ?_
    refine sq rfl rfl hn rfl (q_move rfl rfl) ?_
    refine stepG [] (guard_some rfl rfl rfl) rfl (nb hn rfl) (fun hc => trivial) (fun hc => q_move rfl rfl) ?_
    refine stepG [(155, _)] (guard_some rfl rfl rfl) rfl (nb hn rfl) (fun hc => ⟨⟨_, rfl, hc⟩, trivial⟩) (fun hc => q_neq rfl rfl rfl) ?_
    refine sq rfl rfl hn rfl (q_or rfl rfl rfl (by intro hB; first | (rw [hB]; rfl) | (rw [hB, hc]; rfl) | simp_all)) ?_
    refine sq rfl rfl hn rfl (q_move rfl rfl) ?_
    refine stepG [] (guard_some rfl rfl rfl) rfl (nb hn rfl) (fun hc => trivial) (fun hc => q_move rfl rfl) ?_
    refine stepG [(159, _)] (guard_some rfl rfl rfl) rfl (nb hn rfl) (fun hc => ⟨⟨_, rfl, hc⟩, trivial⟩) (fun hc => q_len rfl rfl Tryz.underlying48) ?_
    refine stepG [] (guard_some rfl rfl rfl) rfl (nb hn rfl) (fun hc => trivial) (fun hc => q_move rfl rfl) ?_
    refine stepG [(161, _)] (guard_some rfl rfl rfl) rfl (nb hn rfl) (fun hc => ⟨⟨_, rfl, hc⟩, trivial⟩) (fun hc => q_len rfl rfl Tryz.underlying70) ?_
    refine stepG [(160, _), (162, _)] (guard_some rfl rfl rfl) rfl (nb hn rfl) (fun hc => ⟨⟨_, rfl, hc⟩, ⟨_, rfl, hc⟩, trivial⟩) (fun hc => q_neq rfl rfl rfl) ?_
    refine sq rfl rfl hn rfl (q_or rfl rfl rfl (by intro hB; first | (rw [hB]; rfl) | (rw [hB, hc]; rfl) | simp_all)) ?_
    refine sq rfl rfl hn rfl (q_move rfl rfl) ?_
    refine stepG [] (guard_some rfl rfl rfl) rfl (nb hn rfl) (fun hc => trivial) (fun hc => q_move rfl rfl) ?_
    refine stepG [(166, _)] (guard_some rfl rfl rfl) rfl (nb hn rfl) (fun hc => ⟨⟨_, rfl, hc⟩, trivial⟩) (fun hc => q_len rfl rfl Tryz.underlying48) ?_
    refine stepG [] (guard_some rfl rfl rfl) rfl (nb hn rfl) (fun hc => trivial) (fun hc => q_move rfl rfl) ?_
    refine stepG [(168, _)] (guard_some rfl rfl rfl) rfl (nb hn rfl) (fun hc => ⟨⟨_, rfl, hc⟩, trivial⟩) (fun hc => q_len rfl rfl Tryz.underlying70) ?_
    refine stepG [(167, _), (169, _)] (guard_some rfl rfl rfl) rfl (nb hn rfl) (fun hc => ⟨⟨_, rfl, hc⟩, ⟨_, rfl, hc⟩, trivial⟩) (fun hc => q_neq rfl rfl rfl) ?_
    refine sq rfl rfl hn rfl (q_or rfl rfl rfl (by intro hB; first | (rw [hB]; rfl) | (rw [hB, hc]; rfl) | simp_all)) ?_
    refine run_nil (aend_then ?_)
    refine awp_cond rfl (fun hb5 => ?_) (fun hb5 => ?_)
    ·
     exact absurd hb5 (by simp)
    ·
     refine awp_skip (aend_then (awp_seq (awp_seq (awp_region ?_))))
     refine sq rfl rfl hn rfl (q_assign rfl rfl) ?_
     refine run_nil (aend_then (awp_block ?_))
     refine awp_loop_on (ι := {i : Nat // i ≤ (soldL b ws).length}) (fun x => (23, true, .d (.int .i64 (x.1 : Nat))) :: anys [172, 173, 174, 175, 178, 179, 180, 181, 182, 183, 184, 185, 186, 187, 188, 189, 190, 191, 192, 193, 194, 195, 196, 197, 198, 199, 200, 201, 202, 203, 204, 205, 206, 207, 208, 209, 210, 211, 212, 213, 214, 215, 216, 217, 218, 219, 220, 221, 222, 223, 224, 225, 226, 227, 228, 229, 230, 231, 232, 233, 234, 235, 236, 237, 238, 239, 240, 241, 242, 243, 244, 245, 246, 247, 248, 176, 177]) (fun x => []) (fun x => (soldL b ws).length - x.1) ⟨0, Nat.zero_le _⟩ ⟨.inl rfl, holdT_anys _⟩ trivial ?_
     rintro ⟨i, hi⟩
     dsimp only
     refine awp_seq (awp_seq (awp_region ?_))
     refine sq rfl rfl hn rfl (q_move rfl rfl) ?_
     refine sq rfl rfl hn rfl (q_move rfl rfl) ?_
     refine sq rfl rfl hn rfl (q_len rfl rfl Tryz.underlying48) ?_
     refine sq rfl rfl hn rfl (q_lss rfl rfl rfl) ?_
     refine run_nil (aend_then ?_)
     refine awp_cond rfl (fun hb6 => ?_) (fun hb6 => ?_)
     ·
      have hil : i < (soldL b ws).length := by simp at hb6; omega
      obtain ⟨sl, hsl⟩ := ex_get hil
      obtain ⟨s1, hs1⟩ := ex_get (show i - 1 < (soldL b ws).length by omega)
      have hmono : 0 < i → s1.minute ≤ sl.minute := fun h => okAll_mono hso.ok hs1 hsl (by omega)
      have hbd := (okAll_bd hso.ok hsl).2.2.2
      have hA : ∀ a c : Nat, ((soldL b ws).map (ltM a c))[i]? = some (ltM a c sl) := fun a c => by rw [List.getElem?_map, hsl]; rfl
      have hB : ∀ a c : Nat, ((soldL b ws).map (ltM a c))[i - 1]? = some (ltM a c s1) := fun a c => by rw [List.getElem?_map, hs1]; rfl
      refine awp_skip (aend_then (awp_seq (awp_block (awp_seq ?_))))
      refine d_start (W := fun b => True) fmo ?_
      refine d1q (i := 0) rfl (by kernel_rfl) (fun _ _ _ _ h => h) rfl rfl hn rfl (q_move rfl rfl) ?_
      refine d1q (i := 1) rfl (by kernel_rfl) (fun _ _ _ _ h => h) rfl rfl hn rfl (q_move rfl rfl) ?_
      refine d1q (i := 2) rfl (by kernel_rfl) (fun _ _ _ _ h => h) rfl rfl hn rfl (q_index (i := i) rfl rfl rfl Tryz.underlying48 sz45 rfl (mget (hA _ _))) ?_
      refine d1q (i := 3) rfl (by kernel_rfl) (fun _ _ _ _ h => h) rfl rfl hn rfl (q_fieldAddrp rfl rfl Tryz.underlying45 rfl sz3 rfl) ?_
      refine d1q (i := 4) rfl (by kernel_rfl) (fun _ _ _ _ h => h) rfl rfl hn rfl (q_loadp rfl rfl Tryz.underlying3 rfl seesFA) ?_
      refine d1q (i := 5) rfl (by kernel_rfl) (fun _ _ _ _ h => h) rfl rfl hn rfl (q_move rfl rfl) ?_
      refine d1q (i := 6) rfl (by kernel_rfl) (fun _ _ _ _ h => h) rfl rfl hn rfl (q_move rfl rfl) ?_
      refine d1q (i := 7) rfl (by kernel_rfl) (fun _ _ _ _ h => h) rfl rfl hn rfl (q_index (i := i) rfl rfl rfl Tryz.underlying48 sz45 rfl (mget (hA _ _))) ?_
      refine d1q (i := 8) rfl (by kernel_rfl) (fun _ _ _ _ h => h) rfl rfl hn rfl (q_fieldAddrp rfl rfl Tryz.underlying45 rfl sz3 rfl) ?_
      refine d1q (i := 9) rfl (by kernel_rfl) (fun _ _ _ _ h => h) rfl rfl hn rfl (q_loadp rfl rfl Tryz.underlying3 rfl seesFA) ?_
      refine d1q (i := 10) rfl (by kernel_rfl) (fun _ _ _ _ h => h) rfl rfl hn rfl (q_gtr rfl rfl rfl) ?_
      refine d1q (i := 11) rfl (by kernel_rfl) (fun _ _ _ _ h => h) rfl rfl hn rfl (q_move rfl rfl) ?_
      refine d1g (i := 12) [] rfl (by kernel_rfl) (fun _ _ _ _ h => h) (guard_some rfl rfl rfl) rfl hn rfl (fun hc => trivial) (fun hc => q_move rfl rfl) ?_
      refine d1g (i := 13) [] rfl (by kernel_rfl) (fun _ _ _ _ h => h) (guard_some rfl rfl rfl) rfl hn rfl (fun hc => trivial) (fun hc => q_move rfl rfl) ?_
      refine d1g (i := 14) [(190, _), (191, _)] rfl (by kernel_rfl) (fun _ _ _ _ h => h) (guard_some rfl rfl rfl) rfl hn rfl (fun hc => ⟨⟨_, rfl, hc⟩, ⟨_, rfl, hc⟩, trivial⟩) (fun hc => q_index (i := i) rfl rfl rfl Tryz.underlying48 sz45 rfl (mget (hA _ _))) ?_
      refine d1g (i := 15) [(192, _)] rfl (by kernel_rfl) (fun _ _ _ _ h => h) (guard_some rfl rfl rfl) rfl hn rfl (fun hc => ⟨⟨_, rfl, hc⟩, trivial⟩) (fun hc => q_fieldAddrp rfl rfl Tryz.underlying45 rfl sz3 rfl) ?_
      refine d1g (i := 16) [(193, _)] rfl (by kernel_rfl) (fun _ _ _ _ h => h) (guard_some rfl rfl rfl) rfl hn rfl (fun hc => ⟨⟨_, rfl, hc⟩, trivial⟩) (fun hc => q_loadp rfl rfl Tryz.underlying3 rfl seesFA) ?_
      refine d1g (i := 17) [] rfl (by kernel_rfl) (fun _ _ _ _ h => h) (guard_some rfl rfl rfl) rfl hn rfl (fun hc => trivial) (fun hc => q_move rfl rfl) ?_
      refine d1g (i := 18) [] rfl (by kernel_rfl) (fun _ _ _ _ h => h) (guard_some rfl rfl rfl) rfl hn rfl (fun hc => trivial) (fun hc => q_move rfl rfl) ?_
      refine d1g (i := 19) [(195, _), (196, _)] rfl (by kernel_rfl) (fun _ _ _ _ h => h) (guard_some rfl rfl rfl) rfl hn rfl (fun hc => ⟨⟨_, rfl, hc⟩, ⟨_, rfl, hc⟩, trivial⟩) (fun hc => q_index (i := i) rfl rfl rfl Tryz.underlying48 sz45 rfl (mget (hA _ _))) ?_
      refine d1g (i := 20) [(197, _)] rfl (by kernel_rfl) (fun _ _ _ _ h => h) (guard_some rfl rfl rfl) rfl hn rfl (fun hc => ⟨⟨_, rfl, hc⟩, trivial⟩) (fun hc => q_fieldAddrp rfl rfl Tryz.underlying45 rfl sz3 rfl) ?_
      refine d1g (i := 21) [(198, _)] rfl (by kernel_rfl) (fun _ _ _ _ h => h) (guard_some rfl rfl rfl) rfl hn rfl (fun hc => ⟨⟨_, rfl, hc⟩, trivial⟩) (fun hc => q_loadp rfl rfl Tryz.underlying3 rfl seesFA) ?_
      refine d1g (i := 22) [(194, _), (199, _)] rfl (by kernel_rfl) (fun _ _ _ _ h => h) (guard_some rfl rfl rfl) rfl hn rfl (fun hc => ⟨⟨_, rfl, hc⟩, ⟨_, rfl, hc⟩, trivial⟩) (fun hc => q_gtr rfl rfl rfl) ?_
      refine d1q (i := 23) rfl (by kernel_rfl) (fun _ _ _ _ h => h) rfl rfl hn rfl (q_or rfl rfl rfl (by intro hB; first | (rw [hB]; rfl) | (rw [hB, hc]; rfl) | simp_all)) ?_
      refine d1q (i := 24) rfl (by kernel_rfl) (fun _ _ _ _ h => h) rfl rfl hn rfl (q_move rfl rfl) ?_
      refine d1g (i := 25) [] rfl (by kernel_rfl) (fun _ _ _ _ h => h) (guard_some rfl rfl rfl) rfl hn rfl (fun hc => trivial) (fun hc => q_move rfl rfl) ?_
      refine d1g (i := 26) [(203, _)] rfl (by kernel_rfl) (fun _ _ _ _ h => h) (guard_some rfl rfl rfl) rfl hn rfl (fun hc => ⟨⟨_, rfl, hc⟩, trivial⟩) (fun hc => q_gtr rfl rfl rfl) ?_
      refine d1g (i := 27) [(204, _)] rfl (by kernel_rfl) (fun _ _ _ _ h => h) (guard_some rfl rfl rfl) rfl hn rfl (fun hc => ⟨⟨_, rfl, hc⟩, trivial⟩) (fun hc => q_move rfl rfl) ?_
      refine d1g (i := 28) [] rfl (by kernel_rfl) (fun _ _ _ _ h => h) (guard_some rfl rfl rfl) rfl hn rfl (fun hc => trivial) (fun hc => q_move rfl rfl) ?_
      refine d1g (i := 29) [] rfl (by kernel_rfl) (fun _ _ _ _ h => h) (guard_some rfl rfl rfl) rfl hn rfl (fun hc => trivial) (fun hc => q_move rfl rfl) ?_
      refine d1g (i := 30) [(206, _), (207, _)] rfl (by kernel_rfl) (fun _ _ _ _ h => h) (guard_some rfl rfl rfl) rfl hn rfl (fun hc => ⟨⟨_, rfl, hc⟩, ⟨_, rfl, hc⟩, trivial⟩) (fun hc => q_index (i := i) rfl rfl rfl Tryz.underlying48 sz45 rfl (mget (hA _ _))) ?_
      refine d1g (i := 31) [(208, _)] rfl (by kernel_rfl) (fun _ _ _ _ h => h) (guard_some rfl rfl rfl) rfl hn rfl (fun hc => ⟨⟨_, rfl, hc⟩, trivial⟩) (fun hc => q_fieldAddrp rfl rfl Tryz.underlying45 rfl sz3 rfl) ?_
      refine d1g (i := 32) [(209, _)] rfl (by kernel_rfl) (fun _ _ _ _ h => h) (guard_some rfl rfl rfl) rfl hn rfl (fun hc => ⟨⟨_, rfl, hc⟩, trivial⟩) (fun hc => q_loadp rfl rfl Tryz.underlying3 rfl seesFA) ?_
      refine d1g (i := 33) [] rfl (by kernel_rfl) (fun _ _ _ _ h => h) (guard_some rfl rfl rfl) rfl hn rfl (fun hc => trivial) (fun hc => q_move rfl rfl) ?_
      refine d1g (i := 34) [] rfl (by kernel_rfl) (fun _ _ _ _ h => h) (guard_some rfl rfl rfl) rfl hn rfl (fun hc => trivial) (fun hc => q_move rfl rfl) ?_
      refine d1g (i := 35) [(212, _)] rfl (by kernel_rfl) (fun _ _ _ _ h => h) (guard_some rfl rfl rfl) rfl hn rfl (fun hc => ⟨⟨_, rfl, hc⟩, trivial⟩) (fun hc => q_sub rfl rfl rfl (r := ((i - 1 : Nat) : Int)) (i64w (by simp at hc; omega) (by simp at hc; omega))) ?_
      refine d1g (i := 36) [(211, _), (213, _)] rfl (by kernel_rfl) (fun _ _ _ _ h => h) (guard_some rfl rfl rfl) rfl hn rfl (fun hc => ⟨⟨_, rfl, hc⟩, ⟨_, rfl, hc⟩, trivial⟩) (fun hc => q_index (i := i - 1) rfl rfl rfl Tryz.underlying48 sz45 rfl (mget (hB _ _))) ?_
      refine d1g (i := 37) [(214, _)] rfl (by kernel_rfl) (fun _ _ _ _ h => h) (guard_some rfl rfl rfl) rfl hn rfl (fun hc => ⟨⟨_, rfl, hc⟩, trivial⟩) (fun hc => q_fieldAddrp rfl rfl Tryz.underlying45 rfl sz3 rfl) ?_
      refine d1g (i := 38) [(215, _)] rfl (by kernel_rfl) (fun _ _ _ _ h => h) (guard_some rfl rfl rfl) rfl hn rfl (fun hc => ⟨⟨_, rfl, hc⟩, trivial⟩) (fun hc => q_loadp rfl rfl Tryz.underlying3 rfl seesFA) ?_
      refine d1g (i := 39) [(210, _), (216, _)] rfl (by kernel_rfl) (fun _ _ _ _ h => h) (guard_some rfl rfl rfl) rfl hn rfl (fun hc => ⟨⟨_, rfl, hc⟩, ⟨_, rfl, hc⟩, trivial⟩) (fun hc => q_lss rfl rfl rfl) ?_
      refine d1g (i := 40) [(217, _)] rfl (by kernel_rfl) (fun _ _ _ _ h => h) (guard_some rfl rfl rfl) rfl hn rfl (fun hc => ⟨⟨_, rfl, hc⟩, trivial⟩) (fun hc => q_move rfl rfl) ?_
      refine d1g (i := 41) [] rfl (by kernel_rfl) (fun _ _ _ _ h => h) (guard_some rfl rfl rfl) rfl hn rfl (fun hc => trivial) (fun hc => q_move rfl rfl) ?_
      refine d1g (i := 42) [] rfl (by kernel_rfl) (fun _ _ _ _ h => h) (guard_some rfl rfl rfl) rfl hn rfl (fun hc => trivial) (fun hc => q_move rfl rfl) ?_
      refine d1g (i := 43) [(219, _), (220, _)] rfl (by kernel_rfl) (fun _ _ _ _ h => h) (guard_some rfl rfl rfl) rfl hn rfl (fun hc => ⟨⟨_, rfl, hc⟩, ⟨_, rfl, hc⟩, trivial⟩) (fun hc => q_index (i := i) rfl rfl rfl Tryz.underlying48 sz45 rfl (mget (hA _ _))) ?_
      refine d1g (i := 44) [(221, _)] rfl (by kernel_rfl) (fun _ _ _ _ h => h) (guard_some rfl rfl rfl) rfl hn rfl (fun hc => ⟨⟨_, rfl, hc⟩, trivial⟩) (fun hc => q_fieldAddrp rfl rfl Tryz.underlying45 rfl sz3 rfl) ?_
      refine d1g (i := 45) [(222, _)] rfl (by kernel_rfl) (fun _ _ _ _ h => h) (guard_some rfl rfl rfl) rfl hn rfl (fun hc => ⟨⟨_, rfl, hc⟩, trivial⟩) (fun hc => q_loadp rfl rfl Tryz.underlying3 rfl seesFA) ?_
      refine d1g (i := 46) [] rfl (by kernel_rfl) (fun _ _ _ _ h => h) (guard_some rfl rfl rfl) rfl hn rfl (fun hc => trivial) (fun hc => q_move rfl rfl) ?_
      refine d1g (i := 47) [] rfl (by kernel_rfl) (fun _ _ _ _ h => h) (guard_some rfl rfl rfl) rfl hn rfl (fun hc => trivial) (fun hc => q_move rfl rfl) ?_
      refine d1g (i := 48) [(225, _)] rfl (by kernel_rfl) (fun _ _ _ _ h => h) (guard_some rfl rfl rfl) rfl hn rfl (fun hc => ⟨⟨_, rfl, hc⟩, trivial⟩) (fun hc => q_sub rfl rfl rfl (r := ((i - 1 : Nat) : Int)) (i64w (by simp at hc; omega) (by simp at hc; omega))) ?_
      refine d1g (i := 49) [(224, _), (226, _)] rfl (by kernel_rfl) (fun _ _ _ _ h => h) (guard_some rfl rfl rfl) rfl hn rfl (fun hc => ⟨⟨_, rfl, hc⟩, ⟨_, rfl, hc⟩, trivial⟩) (fun hc => q_index (i := i - 1) rfl rfl rfl Tryz.underlying48 sz45 rfl (mget (hB _ _))) ?_
      refine d1g (i := 50) [(227, _)] rfl (by kernel_rfl) (fun _ _ _ _ h => h) (guard_some rfl rfl rfl) rfl hn rfl (fun hc => ⟨⟨_, rfl, hc⟩, trivial⟩) (fun hc => q_fieldAddrp rfl rfl Tryz.underlying45 rfl sz3 rfl) ?_
      refine d1g (i := 51) [(228, _)] rfl (by kernel_rfl) (fun _ _ _ _ h => h) (guard_some rfl rfl rfl) rfl hn rfl (fun hc => ⟨⟨_, rfl, hc⟩, trivial⟩) (fun hc => q_loadp rfl rfl Tryz.underlying3 rfl seesFA) ?_
      refine d1g (i := 52) [(223, _), (229, _)] rfl (by kernel_rfl) (fun _ _ _ _ h => h) (guard_some rfl rfl rfl) rfl hn rfl (fun hc => ⟨⟨_, rfl, hc⟩, ⟨_, rfl, hc⟩, trivial⟩) (fun hc => q_lss rfl rfl rfl) ?_
      refine d1g (i := 53) [(218, _)] rfl (by kernel_rfl) (fun _ _ _ _ h => h) (guard_some rfl rfl rfl) rfl hn rfl (fun hc => ⟨⟨_, rfl, hc⟩, trivial⟩) (fun hc => q_or rfl rfl rfl (by intro hB; first | (rw [hB]; rfl) | (rw [hB, hc]; rfl) | simp_all)) ?_
      refine d1g (i := 54) [(205, _)] rfl (by kernel_rfl) (fun _ _ _ _ h => h) (guard_some rfl rfl rfl) rfl hn rfl (fun hc => ⟨⟨_, rfl, hc⟩, trivial⟩) (fun hc => q_and rfl rfl rfl (by intro hB; first | (rw [hB]; rfl) | (rw [hB, hc]; rfl) | simp_all)) ?_
      refine d1q (i := 55) rfl (by kernel_rfl) (fun _ _ _ _ h => h) rfl rfl hn rfl (q_or rfl rfl rfl (by intro hB; first | (rw [hB]; rfl) | (rw [hB, hc]; rfl) | simp_all)) ?_
      refine d1q (i := 56) rfl (by kernel_rfl) (fun _ _ _ _ h => h) rfl rfl hn rfl (q_move rfl rfl) ?_
      refine d1g (i := 57) [] rfl (by kernel_rfl) (fun _ _ _ _ h => h) (guard_some rfl rfl rfl) rfl hn rfl (fun hc => trivial) (fun hc => q_move rfl rfl) ?_
      refine d1g (i := 58) [] rfl (by kernel_rfl) (fun _ _ _ _ h => h) (guard_some rfl rfl rfl) rfl hn rfl (fun hc => trivial) (fun hc => q_move rfl rfl) ?_
      refine d1g (i := 59) [(235, _), (236, _)] rfl (by kernel_rfl) (fun _ _ _ _ h => h) (guard_some rfl rfl rfl) rfl hn rfl (fun hc => ⟨⟨_, rfl, hc⟩, ⟨_, rfl, hc⟩, trivial⟩) (fun hc => q_index (i := i) rfl rfl rfl Tryz.underlying48 sz45 rfl (mget (hA _ _))) ?_
      refine d1g (i := 60) [(237, _)] rfl (by kernel_rfl) (fun _ _ _ _ h => h) (guard_some rfl rfl rfl) rfl hn rfl (fun hc => ⟨⟨_, rfl, hc⟩, trivial⟩) (fun hc => q_fieldAddrp rfl rfl Tryz.underlying45 rfl sz3 rfl) ?_
      refine d1g (i := 61) [(238, _)] rfl (by kernel_rfl) (fun _ _ _ _ h => h) (guard_some rfl rfl rfl) rfl hn rfl (fun hc => ⟨⟨_, rfl, hc⟩, trivial⟩) (fun hc => q_loadp rfl rfl Tryz.underlying3 rfl seesFA) ?_
      refine d1g (i := 62) [] rfl (by kernel_rfl) (fun _ _ _ _ h => h) (guard_some rfl rfl rfl) rfl hn rfl (fun hc => trivial) (fun hc => q_move rfl rfl) ?_
      refine d1g (i := 63) [] rfl (by kernel_rfl) (fun _ _ _ _ h => h) (guard_some rfl rfl rfl) rfl hn rfl (fun hc => trivial) (fun hc => q_move rfl rfl) ?_
      refine d1g (i := 64) [(240, _), (241, _)] rfl (by kernel_rfl) (fun _ _ _ _ h => h) (guard_some rfl rfl rfl) rfl hn rfl (fun hc => ⟨⟨_, rfl, hc⟩, ⟨_, rfl, hc⟩, trivial⟩) (fun hc => q_index (i := i) rfl rfl rfl Tryz.underlying70 sz91 rfl (mget hsl)) ?_
      refine d1g (i := 65) [(242, _)] rfl (by kernel_rfl) (fun _ _ _ _ h => h) (guard_some rfl rfl rfl) rfl hn rfl (fun hc => ⟨⟨_, rfl, hc⟩, trivial⟩) (fun hc => q_fieldAddrp rfl rfl Tryz.underlying91 rfl sz3 rfl) ?_
      refine d1g (i := 66) [(243, _)] rfl (by kernel_rfl) (fun _ _ _ _ h => h) (guard_some rfl rfl rfl) rfl hn rfl (fun hc => ⟨⟨_, rfl, hc⟩, trivial⟩) (fun hc => q_loadp rfl rfl Tryz.underlying3 rfl seesFA) ?_
      refine d1g (i := 67) [] rfl (by kernel_rfl) (fun _ _ _ _ h => h) (guard_some rfl rfl rfl) rfl hn rfl (fun hc => trivial) (fun hc => q_move rfl rfl) ?_
      refine d1g (i := 68) [(244, _), (245, _)] rfl (by kernel_rfl) (fun _ _ _ _ h => h) (guard_some rfl rfl rfl) rfl hn rfl (fun hc => ⟨⟨_, rfl, hc⟩, ⟨_, rfl, hc⟩, trivial⟩) (fun hc => q_sub rfl rfl rfl (r := sl.minute - ((la % 20 : Nat) : Int)) (i64w (by omega) rfl)) ?_
      refine d1g (i := 69) [(239, _), (246, _)] rfl (by kernel_rfl) (fun _ _ _ _ h => h) (guard_some rfl rfl rfl) rfl hn rfl (fun hc => ⟨⟨_, rfl, hc⟩, ⟨_, rfl, hc⟩, trivial⟩) (fun hc => q_neq rfl rfl rfl) ?_
      refine d1q (i := 70) rfl (by kernel_rfl) (fun _ _ _ _ h => h) rfl rfl hn rfl (q_or rfl rfl rfl (by intro hB; first | (rw [hB]; rfl) | (rw [hB, hc]; rfl) | simp_all)) ?_
      refine d1_of_d2 ?_
      refine d2_done (by kernel_rfl) ?_
      refine aend_then ?_
      refine awp_cond rfl (fun hb7 => ?_) (fun hb7 => ?_)
      ·
       exfalso; have h := hb7; simp only [ltM, Bool.or_eq_true, Bool.and_eq_true, decide_eq_true_eq, bne_iff_ne, ne_eq] at h; rcases h with ((h | h) | ⟨h1, h | h⟩) | h <;> first | (have h2 := of_decide_eq_true h; omega) | exact h trivial
      ·
       refine awp_skip (aend_block (aend_then (awp_region ?_)))
       refine sq rfl rfl hn rfl (q_move rfl rfl) ?_
       refine sq rfl rfl hn rfl (q_add rfl rfl rfl (r := ((i + 1 : Nat) : Int)) (i64w (by omega) (by omega))) ?_
       refine sq rfl rfl hn rfl (q_assign rfl rfl) ?_
       refine run_nil ?_
       exact aend_round_on ⟨i + 1, by omega⟩ ⟨.inl rfl, holdT_anys _⟩ trivial (by simp only; omega) (by repeat (first | exact kr _ | refine kc rfl ?_)) (by repeat (first | exact kr _ | refine kc rfl ?_))
     ·
      refine awp_exit (aend_then_exit (aend_then_exit (aend_block_exit (aend_then (awp_seq (awp_region ?_))))))
      refine stepW (s_call [] (fun _ => awake_ok) rfl (guard_none rfl) rfl (nb hn rfl) (fun _ => trivial) rfl rfl (.refl _)) fun _ => ?_
      refine sq rfl rfl hn rfl (q_assign rfl rfl) ?_
      refine run_nil (aend_then (awp_ret ?_))
      exact ret_1 (.inl rfl) hl rfl (.tmp rfl)
end Go.Proofs.YtplpcamcnppibaaGreatDoor
