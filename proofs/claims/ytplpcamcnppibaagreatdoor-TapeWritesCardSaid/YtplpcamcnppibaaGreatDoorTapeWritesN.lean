/-
  A part of the proof that contangolaw.TapeWrites returns true: what the last text needs, and no more. No condition: no statement of the seat is proved here.
-/
import Derived.Laws.StructEq
import Derived.Test.YtplpcamcnppibaaGreatDoorTapeWritesM
namespace Go.Proofs.YtplpcamcnppibaaGreatDoor
open Go.RowKit
set_option linter.all false
set_option maxRecDepth 20000
theorem eqveql45 (a b c e : Int) (w : World) : (binOp .eql 45 (.agg #[.int .i64 a, .int .i64 b]) (.agg #[.int .i64 c, .int .i64 e])).run Tryz.prog w = .ok (.bool ((a == c && b == e))) w := by
  have u3 := Tryz.underlying3
  have a3 := Tryz.isAgg3
  have z3 := Tryz.sizeOf3
  have hS : Tryz.prog.underlying 45 = some (.struct (Tryz.prog.fieldsOf 45)) := by kernel_rfl
  have hp : Tryz.prog.stoodInHeld 45 = false := by kernel_rfl
  rw [run_eql_struct, show (10000 : Nat) = 9999 + 1 from rfl, run_equalIn_agg w 9999 45 _ _ hS hp]
  simp only [Program.fieldsOf, Tryz.underlying45]
  go_simp
  by_cases h1 : a = c <;> by_cases h2 : b = e <;> simp [h1, h2]
theorem q_eql45 {Γ : Cx} {σ : St} {o : Oper} {R : Rel} {x y : Operand} {t' : TypeId} {a b c d : Int} (h : o.op = .binOp .eql 45 x y t') (hx : σ.ev x = some (true, .d (.agg [.int .i64 a, .int .i64 b]))) (hy : σ.ev y = some (true, .d (.agg [.int .i64 c, .int .i64 d]))) :
    QV Γ Tryz.prog σ o R (.d (.bool ((a == c && b == d)))) := fun A w F hs => by
  obtain ⟨vs, e1, h1, _⟩ := hs.ev hx
  obtain ⟨us, e2, h2, _⟩ := hs.ev hy
  obtain ⟨v1, vs1, rfl, q1, v2, vs2, rfl, q2, q3⟩ := h1
  obtain ⟨u1, us1, rfl, p1, u2, us2, rfl, p2, p3⟩ := h2
  simp only [Rep, RepVals] at q1 q2 q3 p1 p2 p3
  subst q1 q2 q3 p1 p2 p3
  exact ⟨.bool ((a == c && b == d)), rfl, fun w' _ => by
    simp only [execOp, h, e1, e2, Sem.run_bind, run_eqGuard_agg w' .eql 45 x y _ _ (show Tryz.prog.eqGuardType Tryz.prog.depth 45 = false by kernel_rfl), Result.andThen_ok, eqveql45, Sem.run_pure]⟩
theorem eqvneq41 (a b c e : Int) (w : World) : (binOp .neq 41 (.agg #[.int .i64 a, .int .i64 b]) (.agg #[.int .i64 c, .int .i64 e])).run Tryz.prog w = .ok (.bool (!(a == c && b == e))) w := by
  have u3 := Tryz.underlying3
  have a3 := Tryz.isAgg3
  have z3 := Tryz.sizeOf3
  have hS : Tryz.prog.underlying 41 = some (.struct (Tryz.prog.fieldsOf 41)) := by kernel_rfl
  have hp : Tryz.prog.stoodInHeld 41 = false := by kernel_rfl
  rw [run_neq_struct, show (10000 : Nat) = 9999 + 1 from rfl, run_equalIn_agg w 9999 41 _ _ hS hp]
  simp only [Program.fieldsOf, Tryz.underlying41]
  go_simp
  by_cases h1 : a = c <;> by_cases h2 : b = e <;> simp [h1, h2]
theorem q_neq41 {Γ : Cx} {σ : St} {o : Oper} {R : Rel} {x y : Operand} {t' : TypeId} {a b c d : Int} (h : o.op = .binOp .neq 41 x y t') (hx : σ.ev x = some (true, .d (.agg [.int .i64 a, .int .i64 b]))) (hy : σ.ev y = some (true, .d (.agg [.int .i64 c, .int .i64 d]))) :
    QV Γ Tryz.prog σ o R (.d (.bool (!(a == c && b == d)))) := fun A w F hs => by
  obtain ⟨vs, e1, h1, _⟩ := hs.ev hx
  obtain ⟨us, e2, h2, _⟩ := hs.ev hy
  obtain ⟨v1, vs1, rfl, q1, v2, vs2, rfl, q2, q3⟩ := h1
  obtain ⟨u1, us1, rfl, p1, u2, us2, rfl, p2, p3⟩ := h2
  simp only [Rep, RepVals] at q1 q2 q3 p1 p2 p3
  subst q1 q2 q3 p1 p2 p3
  exact ⟨.bool (!(a == c && b == d)), rfl, fun w' _ => by
    simp only [execOp, h, e1, e2, Sem.run_bind, run_eqGuard_agg w' .neq 41 x y _ _ (show Tryz.prog.eqGuardType Tryz.prog.depth 41 = false by kernel_rfl), Result.andThen_ok, eqvneq41, Sem.run_pure]⟩
def prtB (p q : Prt) : Bool := p.stock == q.stock && ((p.nlo == q.nlo && p.nhi == q.nhi) && (p.fig == q.fig && ((p.full == q.full) && (p.minute == q.minute && (p.llo == q.llo && p.lhi == q.lhi)))))
def prtV (p : Prt) : Array Value := #[.int .i64 p.stock, .int .i64 p.nlo, .int .i64 p.nhi, .int .i64 p.fig, .bool p.full, .int .i64 p.minute, .int .i64 p.llo, .int .i64 p.lhi]
theorem rep_prt {F : Nat → Nat → Prop} {w : World} {p : Prt} {vs : List Value} (h : RepVals F w (prtE p) vs) : vs = (prtV p).toList := by
  obtain ⟨v1, _, rfl, q1, v2, _, rfl, q2, v3, _, rfl, q3, v4, _, rfl, q4, v5, _, rfl, q5, v6, _, rfl, q6, v7, _, rfl, q7, v8, _, rfl, q8, q9⟩ := h
  simp only [Rep, RepVals] at q1 q2 q3 q4 q5 q6 q7 q8 q9
  subst q1 q2 q3 q4 q5 q6 q7 q8 q9
  rfl
theorem eqveql47 (p q : Prt) (w : World) : (binOp .eql 47 (.agg (prtV p)) (.agg (prtV q))).run Tryz.prog w = .ok (.bool ((prtB p q))) w := by
  have u3 := Tryz.underlying3
  have a3 := Tryz.isAgg3
  have z3 := Tryz.sizeOf3
  have u4 := Tryz.underlying4
  have a4 := Tryz.isAgg4
  have z4 := Tryz.sizeOf4
  have a45 := Tryz.isAgg45
  have z45 := Tryz.sizeOf45
  have hS : Tryz.prog.underlying 47 = some (.struct (Tryz.prog.fieldsOf 47)) := by kernel_rfl
  have hp : Tryz.prog.stoodInHeld 47 = false := by kernel_rfl
  rw [run_eql_struct, show (10000 : Nat) = 9999 + 1 from rfl, run_equalIn_agg w 9999 47 _ _ hS hp]
  simp only [Program.fieldsOf, Tryz.underlying47, prtV, prtB]
  go_simp
  by_cases h1 : p.stock = q.stock
  · by_cases h2 : p.nlo = q.nlo
    · by_cases h3 : p.nhi = q.nhi
      · by_cases h4 : p.fig = q.fig
        · by_cases h5 : p.full = q.full
          · by_cases h6 : p.minute = q.minute
            · by_cases h7 : p.llo = q.llo
              · by_cases h8 : p.lhi = q.lhi <;> simp [h1, h2, h3, h4, h5, h6, h7, h8]
              · simp [h1, h2, h3, h4, h5, h6, h7]
            · simp [h1, h2, h3, h4, h5, h6]
          · simp [h1, h2, h3, h4, h5]
        · simp [h1, h2, h3, h4]
      · simp [h1, h2, h3]
    · simp [h1, h2]
  · simp [h1]
theorem q_eql47 {Γ : Cx} {σ : St} {o : Oper} {R : Rel} {x y : Operand} {t' : TypeId} {p q : Prt} (h : o.op = .binOp .eql 47 x y t') (hx : σ.ev x = some (true, .d (.agg (prtE p)))) (hy : σ.ev y = some (true, .d (.agg (prtE q)))) :
    QV Γ Tryz.prog σ o R (.d (.bool ((prtB p q)))) := fun A w F hs => by
  obtain ⟨vs, e1, h1, _⟩ := hs.ev hx
  obtain ⟨us, e2, h2, _⟩ := hs.ev hy
  have f1 := rep_prt h1
  have f2 := rep_prt h2
  subst f1 f2
  exact ⟨.bool ((prtB p q)), rfl, fun w' _ => by
    simp only [execOp, h, e1, e2, Sem.run_bind, run_eqGuard_agg w' .eql 47 x y _ _ (show Tryz.prog.eqGuardType Tryz.prog.depth 47 = false by kernel_rfl), Result.andThen_ok]
    rw [show (prtV p).toList.toArray = prtV p from rfl, show (prtV q).toList.toArray = prtV q from rfl, eqveql47]
    rfl⟩
end Go.Proofs.YtplpcamcnppibaaGreatDoor
namespace Go.Proofs.YtplpcamcnppibaaGreatDoor
open Go.RowKit
set_option maxRecDepth 20000
set_option linter.all false
set_option maxHeartbeats 4000000
abbrev earlyS : List UInt8 := [64, 53, 32, 65, 66, 32, 51, 115, 32, 56, 46, 50, 32, 56, 46, 53, 32, 76, 49, 45, 50, 32, 67, 32, 48, 46, 49, 32, 33, 32, 64, 55, 32, 48, 46, 55, 32, 63]
abbrev lateS : List UInt8 := [64, 53, 32, 65, 66, 32, 51, 115, 32, 56, 46, 50, 32, 76, 49, 45, 50, 32, 64, 55, 32, 56, 46, 53, 32, 67, 32, 48, 46, 49, 32, 33, 32, 64, 56, 32, 48, 46, 55, 32, 63]
abbrev wrongS : List UInt8 := [65, 66, 32, 56, 46, 50, 32, 51, 46, 48, 32, 56, 46, 53]
abbrev earlyL : List Prt := [⟨0, 3, 3, 66, false, 5, 0, 0⟩, ⟨0, 1, 1, 69, false, 5, 0, 0⟩, ⟨1, 1, 1, 1, false, 5, 1, 2⟩, ⟨1, 1, 4, 7, false, 7, 1, 2⟩]
abbrev lateL0 : List Prt := [⟨0, 3, 3, 66, false, 5, 0, 0⟩, ⟨0, 1, 1, 69, false, 7, 1, 2⟩, ⟨1, 1, 1, 1, false, 7, 1, 2⟩, ⟨1, 1, 4, 7, false, 8, 1, 2⟩]
abbrev wrongL : List Prt := [⟨0, 1, 1, 66, false, 0, 0, 0⟩, ⟨0, 1, 1, 24, false, 0, 0, 0⟩, ⟨0, 1, 1, 69, false, 0, 0, 0⟩]
theorem two_valid : checkT twoB = 0 := by kernel_rfl
theorem e_read : readI twoB earlyS = (earlyL, 0) := by rw [← ref_read two_valid]; kernel_rfl
theorem l_read : readI twoB lateS = (lateL0, 0) := by rw [← ref_read two_valid]; kernel_rfl
theorem w_read : readI twoB wrongS = (wrongL, 0) := by rw [← ref_read two_valid]; kernel_rfl
theorem e_prices : pricesI twoB earlyS = ([(306, 306), (309, 309), (81, 81), (87, 87)], 0) := by unfold pricesI; rw [e_read]; kernel_rfl
theorem l_minutes : minutesI twoB lateS = ([(5, 5), (5, 6), (5, 6), (6, 7)], 0) := by unfold minutesI; rw [l_read]; kernel_rfl
theorem l_find : findI twoB lateS ⟨0, 309, 1, 6, 9⟩ = ([1], 0) := by unfold findI; rw [l_read]; kernel_rfl
theorem w_mis : misI twoB wrongS = ([1], 0) := by unfold misI; rw [w_read]; kernel_rfl
theorem e_prove : proveI twoB earlyS [306, 309, 81, 87] = true := by unfold proveI; rw [e_read]; kernel_rfl
theorem e_write : writeI twoB [⟨0, 3, 306, 5⟩, ⟨0, 1, 309, 5⟩, ⟨1, 1, 81, 7⟩] = ([64, 53, 32, 65, 66, 32, 51, 115, 32, 56, 46, 50, 32, 56, 46, 53, 32, 64, 55, 32, 67, 32, 48, 46, 49], 0) := by kernel_rfl
theorem two_names : NamesOK twoB := fun s hs => by
  simp only [twoB, List.mem_cons, List.not_mem_nil, or_false] at hs
  rcases hs with rfl | rfl <;> simp
theorem qv_eq {Γ : Cx} {P : Program} {σ : St} {o : Oper} {R : Rel} {tv tv' : TV} (h : QV Γ P σ o R tv) (e : tv = tv') : QV Γ P σ o R tv' := e ▸ h
abbrev lateSlp : Slp := ⟨0, 309, 1, 6, 9⟩
theorem refRead_ok (b : Brd) (s : List UInt8) (hbl : b.stocks.length ≤ 1000) (h5 : s.length ≤ 4294967000) : PureAt Tryz.prog 48 [brdD b, strD s] (.tup [prtsD (refReadI b s).1, .int .i64 (refReadI b s).2]) := PureAt.of_eff (ds := [brdD b, strD s]) (refRead_eff b s hbl h5)
theorem awake_eff  : EffAt Tryz.prog 17 [] [] (X := Unit) (fun _ => .d (.bool true)) (fun _ => []) := by
  refine EffAt.of_awp Tryz.func17 rfl (by kernel_rfl) rfl fun Γ hn => ?_
  refine awp_seq ?_
  refine awp_region ?_
  refine sq rfl rfl hn rfl (q_assign rfl rfl) ?_
  refine run_nil ?_
  refine aend_then ?_
  refine awp_seq ?_
  refine awp_region ?_
  refine stepW (s_call [] (fun _ => two_ok) rfl (guard_none rfl) rfl (nb hn rfl) (fun _ => trivial) rfl rfl (.refl _)) fun _ => ?_
  refine stepW (s_call [] (fun _ => (by have h := Read_ok twoB earlyS two_names (by decide); rw [e_read] at h; exact h)) rfl (guard_none rfl) rfl (nb hn rfl) (fun _ => trivial) rfl rfl (.refl _)) fun _ => ?_
  refine sq rfl rfl hn rfl (q_move rfl rfl) ?_
  refine sq rfl rfl hn rfl (q_extractd rfl rfl rfl) ?_
  refine sq rfl rfl hn rfl (q_extractd rfl rfl rfl) ?_
  refine sq rfl rfl hn rfl (q_assign rfl rfl) ?_
  refine sq rfl rfl hn rfl (q_assign rfl rfl) ?_
  refine run_nil ?_
  refine aend_then ?_
  refine awp_seq ?_
  refine awp_region ?_
  refine stepW (s_call [] (fun _ => two_ok) rfl (guard_none rfl) rfl (nb hn rfl) (fun _ => trivial) rfl rfl (.refl _)) fun _ => ?_
  refine stepW (s_call [] (fun _ => (by have h := Prices_ok twoB earlyS two_names (by decide); rw [e_prices] at h; exact h)) rfl (guard_none rfl) rfl (nb hn rfl) (fun _ => trivial) rfl rfl (.refl _)) fun _ => ?_
  refine sq rfl rfl hn rfl (q_move rfl rfl) ?_
  refine sq rfl rfl hn rfl (q_extractd rfl rfl rfl) ?_
  refine sq rfl rfl hn rfl (q_extractd rfl rfl rfl) ?_
  refine sq rfl rfl hn rfl (q_assign rfl rfl) ?_
  refine sq rfl rfl hn rfl (q_assign rfl rfl) ?_
  refine run_nil ?_
  refine aend_then ?_
  refine awp_seq ?_
  refine awp_region ?_
  refine stepW (s_call [] (fun _ => two_ok) rfl (guard_none rfl) rfl (nb hn rfl) (fun _ => trivial) rfl rfl (.refl _)) fun _ => ?_
  refine stepW (s_call [] (fun _ => (by have h := Minutes_ok twoB lateS two_names (by decide); rw [l_minutes] at h; exact h)) rfl (guard_none rfl) rfl (nb hn rfl) (fun _ => trivial) rfl rfl (.refl _)) fun _ => ?_
  refine sq rfl rfl hn rfl (q_move rfl rfl) ?_
  refine sq rfl rfl hn rfl (q_extractd rfl rfl rfl) ?_
  refine sq rfl rfl hn rfl (q_extractd rfl rfl rfl) ?_
  refine sq rfl rfl hn rfl (q_assign rfl rfl) ?_
  refine sq rfl rfl hn rfl (q_assign rfl rfl) ?_
  refine run_nil ?_
  refine aend_then ?_
  refine awp_seq ?_
  refine awp_region ?_
  refine stepW (s_call [] (fun _ => two_ok) rfl (guard_none rfl) rfl (nb hn rfl) (fun _ => trivial) rfl rfl (.refl _)) fun _ => ?_
  refine stepW (s_call [] (fun _ => between_ok _ _) rfl (guard_none rfl) rfl (nb hn rfl) (fun _ => trivial) rfl rfl (.refl _)) fun _ => ?_
  refine sq rfl rfl hn rfl (q_buildd rfl bt61 rfl rfl rfl rfl rfl) ?_
  refine stepW (s_call [] (fun _ => (by have h := Find_ok twoB lateS lateSlp two_names (by decide); rw [l_find] at h; exact h)) rfl (guard_none rfl) rfl (nb hn rfl) (fun _ => trivial) rfl rfl (by first | exact .refl _ | (repeat (first | exact .refl _ | exact .nil _ | refine .cons ?_ ?_ | refine .agg ?_ | refine .tup ?_)))) fun _ => ?_
  refine sq rfl rfl hn rfl (q_move rfl rfl) ?_
  refine sq rfl rfl hn rfl (q_extractd rfl rfl rfl) ?_
  refine sq rfl rfl hn rfl (q_extractd rfl rfl rfl) ?_
  refine sq rfl rfl hn rfl (q_assign rfl rfl) ?_
  refine sq rfl rfl hn rfl (q_assign rfl rfl) ?_
  refine run_nil ?_
  refine aend_then ?_
  refine awp_seq ?_
  refine awp_region ?_
  refine stepW (s_call [] (fun _ => two_ok) rfl (guard_none rfl) rfl (nb hn rfl) (fun _ => trivial) rfl rfl (.refl _)) fun _ => ?_
  refine stepW (s_call [] (fun _ => (by have h := Misprints_ok twoB wrongS two_names (by decide); rw [w_mis] at h; exact h)) rfl (guard_none rfl) rfl (nb hn rfl) (fun _ => trivial) rfl rfl (.refl _)) fun _ => ?_
  refine sq rfl rfl hn rfl (q_move rfl rfl) ?_
  refine sq rfl rfl hn rfl (q_extractd rfl rfl rfl) ?_
  refine sq rfl rfl hn rfl (q_extractd rfl rfl rfl) ?_
  refine sq rfl rfl hn rfl (q_assign rfl rfl) ?_
  refine sq rfl rfl hn rfl (q_assign rfl rfl) ?_
  refine run_nil ?_
  refine aend_then ?_
  refine awp_seq ?_
  refine awp_region ?_
  refine stepW (s_call [] (fun _ => two_ok) rfl (guard_none rfl) rfl (nb hn rfl) (fun _ => trivial) rfl rfl (.refl _)) fun _ => ?_
  refine sq rfl rfl hn rfl (q_buildd rfl bt115 rfl rfl rfl rfl rfl) ?_
  refine sq rfl rfl hn rfl (q_buildd rfl bt115 rfl rfl rfl rfl rfl) ?_
  refine sq rfl rfl hn rfl (q_buildd rfl bt115 rfl rfl rfl rfl rfl) ?_
  refine stepW (s_buildSlice rfl rfl rfl (nb hn rfl) Tryz.underlying73 sz115 zr115 rfl rfl rfl (show _ = [.d (.int .i64 0), .d (.int .i64 0), .d (.int .i64 0), .d (.int .i64 0), .d (.int .i64 0), .d (.int .i64 0), .d (.int .i64 0), .d (.int .i64 0), .d (.int .i64 0), .d (.int .i64 0), .d (.int .i64 0), .d (.int .i64 0)] from by kernel_rfl) (by kernel_rfl) rfl rfl rfl rfl rfl) fun _ => ?_
  refine stepW (s_call [] (fun _ => (by have h := Write_ok twoB [⟨0, 3, 306, 5⟩, ⟨0, 1, 309, 5⟩, ⟨1, 1, 81, 7⟩] two_names; rw [e_write] at h; exact h)) rfl (guard_none rfl) rfl (nb hn rfl) (fun _ => trivial) rfl rfl (.refl _)) fun _ => ?_
  refine sq rfl rfl hn rfl (q_move rfl rfl) ?_
  refine sq rfl rfl hn rfl (q_extractd rfl rfl rfl) ?_
  refine sq rfl rfl hn rfl (q_extractd rfl rfl rfl) ?_
  refine sq rfl rfl hn rfl (q_assign rfl rfl) ?_
  refine sq rfl rfl hn rfl (q_assign rfl rfl) ?_
  refine run_nil ?_
  refine aend_then ?_
  refine awp_seq ?_
  refine d_start (W := fun b => True) fmo ?_
  refine d1q (i := 0) rfl (by as_aux_lemma => kernel_rfl) (fun _ _ _ _ h => h) rfl rfl hn rfl (q_move rfl rfl) ?_
  refine d1q (i := 1) rfl (by as_aux_lemma => kernel_rfl) (fun _ _ _ _ h => h) rfl rfl hn rfl (qv_eq (tv' := .d (.bool true)) (q_eql rfl rfl rfl) rfl) ?_
  refine d1q (i := 2) rfl (by as_aux_lemma => kernel_rfl) (fun _ _ _ _ h => h) rfl rfl hn rfl (q_move rfl rfl) ?_
  refine d1g (i := 3) [] rfl (by as_aux_lemma => kernel_rfl) (fun _ _ _ _ h => h) (guard_some rfl rfl rfl) rfl hn rfl (fun hc => trivial) (fun hc => q_move rfl rfl) ?_
  refine d1g (i := 4) [(52, _)] rfl (by as_aux_lemma => kernel_rfl) (fun _ _ _ _ h => h) (guard_some rfl rfl rfl) rfl hn rfl (fun hc => ⟨⟨_, rfl, hc⟩, trivial⟩) (fun hc => q_len rfl rfl Tryz.underlying27) ?_
  refine d1g (i := 5) [(53, _)] rfl (by as_aux_lemma => kernel_rfl) (fun _ _ _ _ h => h) (guard_some rfl rfl rfl) rfl hn rfl (fun hc => ⟨⟨_, rfl, hc⟩, trivial⟩) (fun hc => qv_eq (tv' := .d (.bool true)) (q_eql rfl rfl rfl) rfl) ?_
  refine d1q (i := 6) rfl (by as_aux_lemma => kernel_rfl) (fun _ _ _ _ h => h) rfl rfl hn rfl (qv_eq (tv' := .d (.bool true)) (q_and rfl rfl rfl (by intro hB; first | (rw [hB]; rfl) | (rw [hB, hc]; rfl) | simp_all)) rfl) ?_
  refine d1q (i := 7) rfl (by as_aux_lemma => kernel_rfl) (fun _ _ _ _ h => h) rfl rfl hn rfl (q_move rfl rfl) ?_
  refine d1g (i := 8) [] rfl (by as_aux_lemma => kernel_rfl) (fun _ _ _ _ h => h) (guard_some rfl rfl rfl) rfl hn rfl (fun hc => trivial) (fun hc => q_move rfl rfl) ?_
  refine d1g (i := 9) [(57, _)] rfl (by as_aux_lemma => kernel_rfl) (fun _ _ _ _ h => h) (guard_some rfl rfl rfl) rfl hn rfl (fun hc => ⟨⟨_, rfl, hc⟩, trivial⟩) (fun hc => q_index (i := 3) rfl rfl rfl Tryz.underlying27 sz47 rfl rfl) ?_
  refine d1g (i := 10) [(58, _)] rfl (by as_aux_lemma => kernel_rfl) (fun _ _ _ _ h => h) (guard_some rfl rfl rfl) rfl hn rfl (fun hc => ⟨⟨_, rfl, hc⟩, trivial⟩) (fun hc => q_loadpA rfl rfl Tryz.underlying47 rfl sz47 rfl rfl seesFA) ?_
  refine d1_of_d2 ?_
  refine d2_one (i := 11) (by as_aux_lemma => kernel_rfl) rfl (s_call [] (fun hc => between_ok _ _) rfl (guard_some rfl rfl rfl) rfl (nb hn rfl) (fun hc => trivial) rfl rfl (.refl _)) fun _ => ?_
  refine d2_of_d1 ?_
  refine d1_of_d2 ?_
  refine d2_one (i := 12) (by as_aux_lemma => kernel_rfl) rfl (s_call [] (fun hc => between_ok _ _) rfl (guard_some rfl rfl rfl) rfl (nb hn rfl) (fun hc => trivial) rfl rfl (.refl _)) fun _ => ?_
  refine d2_of_d1 ?_
  refine d1g (i := 13) [(60, _), (61, _)] rfl (by as_aux_lemma => kernel_rfl) (fun _ _ _ _ h => h) (guard_some rfl rfl rfl) rfl hn rfl (fun hc => ⟨⟨_, rfl, hc⟩, ⟨_, rfl, hc⟩, trivial⟩) (fun hc => q_buildd rfl bt47 rfl rfl rfl rfl rfl) ?_
  refine d1g (i := 14) [(59, _), (62, _)] rfl (by as_aux_lemma => kernel_rfl) (fun _ _ _ _ h => h) (guard_some rfl rfl rfl) rfl hn rfl (fun hc => ⟨⟨_, rfl, hc⟩, ⟨_, rfl, hc⟩, trivial⟩) (fun hc => qv_eq (tv' := .d (.bool true)) (q_eql47 (p := ⟨1, 1, 4, 7, false, 7, 1, 2⟩) (q := ⟨1, 1, 4, 7, false, 7, 1, 2⟩) rfl rfl rfl) rfl) ?_
  refine d1q (i := 15) rfl (by as_aux_lemma => kernel_rfl) (fun _ _ _ _ h => h) rfl rfl hn rfl (qv_eq (tv' := .d (.bool true)) (q_and rfl rfl rfl (by intro hB; first | (rw [hB]; rfl) | (rw [hB, hc]; rfl) | simp_all)) rfl) ?_
  refine d1q (i := 16) rfl (by as_aux_lemma => kernel_rfl) (fun _ _ _ _ h => h) rfl rfl hn rfl (q_move rfl rfl) ?_
  refine d1g (i := 17) [] rfl (by as_aux_lemma => kernel_rfl) (fun _ _ _ _ h => h) (guard_some rfl rfl rfl) rfl hn rfl (fun hc => trivial) (fun hc => q_move rfl rfl) ?_
  refine d1g (i := 18) [(66, _)] rfl (by as_aux_lemma => kernel_rfl) (fun _ _ _ _ h => h) (guard_some rfl rfl rfl) rfl hn rfl (fun hc => ⟨⟨_, rfl, hc⟩, trivial⟩) (fun hc => qv_eq (tv' := .d (.bool true)) (q_eql rfl rfl rfl) rfl) ?_
  refine d1q (i := 19) rfl (by as_aux_lemma => kernel_rfl) (fun _ _ _ _ h => h) rfl rfl hn rfl (qv_eq (tv' := .d (.bool true)) (q_and rfl rfl rfl (by intro hB; first | (rw [hB]; rfl) | (rw [hB, hc]; rfl) | simp_all)) rfl) ?_
  refine d1q (i := 20) rfl (by as_aux_lemma => kernel_rfl) (fun _ _ _ _ h => h) rfl rfl hn rfl (q_move rfl rfl) ?_
  refine d1g (i := 21) [] rfl (by as_aux_lemma => kernel_rfl) (fun _ _ _ _ h => h) (guard_some rfl rfl rfl) rfl hn rfl (fun hc => trivial) (fun hc => q_move rfl rfl) ?_
  refine d1g (i := 22) [(70, _)] rfl (by as_aux_lemma => kernel_rfl) (fun _ _ _ _ h => h) (guard_some rfl rfl rfl) rfl hn rfl (fun hc => ⟨⟨_, rfl, hc⟩, trivial⟩) (fun hc => q_len rfl rfl Tryz.underlying48) ?_
  refine d1g (i := 23) [(71, _)] rfl (by as_aux_lemma => kernel_rfl) (fun _ _ _ _ h => h) (guard_some rfl rfl rfl) rfl hn rfl (fun hc => ⟨⟨_, rfl, hc⟩, trivial⟩) (fun hc => qv_eq (tv' := .d (.bool true)) (q_eql rfl rfl rfl) rfl) ?_
  refine d1q (i := 24) rfl (by as_aux_lemma => kernel_rfl) (fun _ _ _ _ h => h) rfl rfl hn rfl (qv_eq (tv' := .d (.bool true)) (q_and rfl rfl rfl (by intro hB; first | (rw [hB]; rfl) | (rw [hB, hc]; rfl) | simp_all)) rfl) ?_
  refine d1q (i := 25) rfl (by as_aux_lemma => kernel_rfl) (fun _ _ _ _ h => h) rfl rfl hn rfl (q_move rfl rfl) ?_
  refine d1g (i := 26) [] rfl (by as_aux_lemma => kernel_rfl) (fun _ _ _ _ h => h) (guard_some rfl rfl rfl) rfl hn rfl (fun hc => trivial) (fun hc => q_move rfl rfl) ?_
  refine d1g (i := 27) [(75, _)] rfl (by as_aux_lemma => kernel_rfl) (fun _ _ _ _ h => h) (guard_some rfl rfl rfl) rfl hn rfl (fun hc => ⟨⟨_, rfl, hc⟩, trivial⟩) (fun hc => q_index (i := 0) rfl rfl rfl Tryz.underlying48 sz45 rfl rfl) ?_
  refine d1g (i := 28) [(76, _)] rfl (by as_aux_lemma => kernel_rfl) (fun _ _ _ _ h => h) (guard_some rfl rfl rfl) rfl hn rfl (fun hc => ⟨⟨_, rfl, hc⟩, trivial⟩) (fun hc => q_loadpA rfl rfl Tryz.underlying45 rfl sz45 rfl rfl seesFA) ?_
  refine d1_of_d2 ?_
  refine d2_one (i := 29) (by as_aux_lemma => kernel_rfl) rfl (s_call [] (fun hc => between_ok _ _) rfl (guard_some rfl rfl rfl) rfl (nb hn rfl) (fun hc => trivial) rfl rfl (.refl _)) fun _ => ?_
  refine d2_of_d1 ?_
  refine d1g (i := 30) [(77, _), (78, _)] rfl (by as_aux_lemma => kernel_rfl) (fun _ _ _ _ h => h) (guard_some rfl rfl rfl) rfl hn rfl (fun hc => ⟨⟨_, rfl, hc⟩, ⟨_, rfl, hc⟩, trivial⟩) (fun hc => qv_eq (tv' := .d (.bool true)) (q_eql45 rfl rfl rfl) rfl) ?_
  refine d1q (i := 31) rfl (by as_aux_lemma => kernel_rfl) (fun _ _ _ _ h => h) rfl rfl hn rfl (qv_eq (tv' := .d (.bool true)) (q_and rfl rfl rfl (by intro hB; first | (rw [hB]; rfl) | (rw [hB, hc]; rfl) | simp_all)) rfl) ?_
  refine d1q (i := 32) rfl (by as_aux_lemma => kernel_rfl) (fun _ _ _ _ h => h) rfl rfl hn rfl (q_move rfl rfl) ?_
  refine d1g (i := 33) [] rfl (by as_aux_lemma => kernel_rfl) (fun _ _ _ _ h => h) (guard_some rfl rfl rfl) rfl hn rfl (fun hc => trivial) (fun hc => q_move rfl rfl) ?_
  refine d1g (i := 34) [(82, _)] rfl (by as_aux_lemma => kernel_rfl) (fun _ _ _ _ h => h) (guard_some rfl rfl rfl) rfl hn rfl (fun hc => ⟨⟨_, rfl, hc⟩, trivial⟩) (fun hc => q_index (i := 3) rfl rfl rfl Tryz.underlying48 sz45 rfl rfl) ?_
  refine d1g (i := 35) [(83, _)] rfl (by as_aux_lemma => kernel_rfl) (fun _ _ _ _ h => h) (guard_some rfl rfl rfl) rfl hn rfl (fun hc => ⟨⟨_, rfl, hc⟩, trivial⟩) (fun hc => q_loadpA rfl rfl Tryz.underlying45 rfl sz45 rfl rfl seesFA) ?_
  refine d1_of_d2 ?_
  refine d2_one (i := 36) (by as_aux_lemma => kernel_rfl) rfl (s_call [] (fun hc => between_ok _ _) rfl (guard_some rfl rfl rfl) rfl (nb hn rfl) (fun hc => trivial) rfl rfl (.refl _)) fun _ => ?_
  refine d2_of_d1 ?_
  refine d1g (i := 37) [(84, _), (85, _)] rfl (by as_aux_lemma => kernel_rfl) (fun _ _ _ _ h => h) (guard_some rfl rfl rfl) rfl hn rfl (fun hc => ⟨⟨_, rfl, hc⟩, ⟨_, rfl, hc⟩, trivial⟩) (fun hc => qv_eq (tv' := .d (.bool true)) (q_eql45 rfl rfl rfl) rfl) ?_
  refine d1q (i := 38) rfl (by as_aux_lemma => kernel_rfl) (fun _ _ _ _ h => h) rfl rfl hn rfl (qv_eq (tv' := .d (.bool true)) (q_and rfl rfl rfl (by intro hB; first | (rw [hB]; rfl) | (rw [hB, hc]; rfl) | simp_all)) rfl) ?_
  refine d1q (i := 39) rfl (by as_aux_lemma => kernel_rfl) (fun _ _ _ _ h => h) rfl rfl hn rfl (q_move rfl rfl) ?_
  refine d1g (i := 40) [] rfl (by as_aux_lemma => kernel_rfl) (fun _ _ _ _ h => h) (guard_some rfl rfl rfl) rfl hn rfl (fun hc => trivial) (fun hc => q_move rfl rfl) ?_
  refine d1g (i := 41) [(89, _)] rfl (by as_aux_lemma => kernel_rfl) (fun _ _ _ _ h => h) (guard_some rfl rfl rfl) rfl hn rfl (fun hc => ⟨⟨_, rfl, hc⟩, trivial⟩) (fun hc => qv_eq (tv' := .d (.bool true)) (q_eql rfl rfl rfl) rfl) ?_
  refine d1q (i := 42) rfl (by as_aux_lemma => kernel_rfl) (fun _ _ _ _ h => h) rfl rfl hn rfl (qv_eq (tv' := .d (.bool true)) (q_and rfl rfl rfl (by intro hB; first | (rw [hB]; rfl) | (rw [hB, hc]; rfl) | simp_all)) rfl) ?_
  refine d1q (i := 43) rfl (by as_aux_lemma => kernel_rfl) (fun _ _ _ _ h => h) rfl rfl hn rfl (q_move rfl rfl) ?_
  refine d1g (i := 44) [] rfl (by as_aux_lemma => kernel_rfl) (fun _ _ _ _ h => h) (guard_some rfl rfl rfl) rfl hn rfl (fun hc => trivial) (fun hc => q_move rfl rfl) ?_
  refine d1g (i := 45) [(93, _)] rfl (by as_aux_lemma => kernel_rfl) (fun _ _ _ _ h => h) (guard_some rfl rfl rfl) rfl hn rfl (fun hc => ⟨⟨_, rfl, hc⟩, trivial⟩) (fun hc => q_len rfl rfl Tryz.underlying48) ?_
  refine d1g (i := 46) [(94, _)] rfl (by as_aux_lemma => kernel_rfl) (fun _ _ _ _ h => h) (guard_some rfl rfl rfl) rfl hn rfl (fun hc => ⟨⟨_, rfl, hc⟩, trivial⟩) (fun hc => qv_eq (tv' := .d (.bool true)) (q_eql rfl rfl rfl) rfl) ?_
  refine d1q (i := 47) rfl (by as_aux_lemma => kernel_rfl) (fun _ _ _ _ h => h) rfl rfl hn rfl (qv_eq (tv' := .d (.bool true)) (q_and rfl rfl rfl (by intro hB; first | (rw [hB]; rfl) | (rw [hB, hc]; rfl) | simp_all)) rfl) ?_
  refine d1q (i := 48) rfl (by as_aux_lemma => kernel_rfl) (fun _ _ _ _ h => h) rfl rfl hn rfl (q_move rfl rfl) ?_
  refine d1g (i := 49) [] rfl (by as_aux_lemma => kernel_rfl) (fun _ _ _ _ h => h) (guard_some rfl rfl rfl) rfl hn rfl (fun hc => trivial) (fun hc => q_move rfl rfl) ?_
  refine d1g (i := 50) [(98, _)] rfl (by as_aux_lemma => kernel_rfl) (fun _ _ _ _ h => h) (guard_some rfl rfl rfl) rfl hn rfl (fun hc => ⟨⟨_, rfl, hc⟩, trivial⟩) (fun hc => q_index (i := 1) rfl rfl rfl Tryz.underlying48 sz45 rfl rfl) ?_
  refine d1g (i := 51) [(99, _)] rfl (by as_aux_lemma => kernel_rfl) (fun _ _ _ _ h => h) (guard_some rfl rfl rfl) rfl hn rfl (fun hc => ⟨⟨_, rfl, hc⟩, trivial⟩) (fun hc => q_loadpA rfl rfl Tryz.underlying45 rfl sz45 rfl rfl seesFA) ?_
  refine d1_of_d2 ?_
  refine d2_one (i := 52) (by as_aux_lemma => kernel_rfl) rfl (s_call [] (fun hc => between_ok _ _) rfl (guard_some rfl rfl rfl) rfl (nb hn rfl) (fun hc => trivial) rfl rfl (.refl _)) fun _ => ?_
  refine d2_of_d1 ?_
  refine d1g (i := 53) [(100, _), (101, _)] rfl (by as_aux_lemma => kernel_rfl) (fun _ _ _ _ h => h) (guard_some rfl rfl rfl) rfl hn rfl (fun hc => ⟨⟨_, rfl, hc⟩, ⟨_, rfl, hc⟩, trivial⟩) (fun hc => qv_eq (tv' := .d (.bool true)) (q_eql45 rfl rfl rfl) rfl) ?_
  refine d1q (i := 54) rfl (by as_aux_lemma => kernel_rfl) (fun _ _ _ _ h => h) rfl rfl hn rfl (qv_eq (tv' := .d (.bool true)) (q_and rfl rfl rfl (by intro hB; first | (rw [hB]; rfl) | (rw [hB, hc]; rfl) | simp_all)) rfl) ?_
  refine d1q (i := 55) rfl (by as_aux_lemma => kernel_rfl) (fun _ _ _ _ h => h) rfl rfl hn rfl (q_move rfl rfl) ?_
  refine d1g (i := 56) [] rfl (by as_aux_lemma => kernel_rfl) (fun _ _ _ _ h => h) (guard_some rfl rfl rfl) rfl hn rfl (fun hc => trivial) (fun hc => q_move rfl rfl) ?_
  refine d1g (i := 57) [(105, _)] rfl (by as_aux_lemma => kernel_rfl) (fun _ _ _ _ h => h) (guard_some rfl rfl rfl) rfl hn rfl (fun hc => ⟨⟨_, rfl, hc⟩, trivial⟩) (fun hc => q_index (i := 3) rfl rfl rfl Tryz.underlying48 sz45 rfl rfl) ?_
  refine d1g (i := 58) [(106, _)] rfl (by as_aux_lemma => kernel_rfl) (fun _ _ _ _ h => h) (guard_some rfl rfl rfl) rfl hn rfl (fun hc => ⟨⟨_, rfl, hc⟩, trivial⟩) (fun hc => q_loadpA rfl rfl Tryz.underlying45 rfl sz45 rfl rfl seesFA) ?_
  refine d1_of_d2 ?_
  refine d2_one (i := 59) (by as_aux_lemma => kernel_rfl) rfl (s_call [] (fun hc => between_ok _ _) rfl (guard_some rfl rfl rfl) rfl (nb hn rfl) (fun hc => trivial) rfl rfl (.refl _)) fun _ => ?_
  refine d2_of_d1 ?_
  refine d1g (i := 60) [(107, _), (108, _)] rfl (by as_aux_lemma => kernel_rfl) (fun _ _ _ _ h => h) (guard_some rfl rfl rfl) rfl hn rfl (fun hc => ⟨⟨_, rfl, hc⟩, ⟨_, rfl, hc⟩, trivial⟩) (fun hc => qv_eq (tv' := .d (.bool true)) (q_eql45 rfl rfl rfl) rfl) ?_
  refine d1q (i := 61) rfl (by as_aux_lemma => kernel_rfl) (fun _ _ _ _ h => h) rfl rfl hn rfl (qv_eq (tv' := .d (.bool true)) (q_and rfl rfl rfl (by intro hB; first | (rw [hB]; rfl) | (rw [hB, hc]; rfl) | simp_all)) rfl) ?_
  refine d1q (i := 62) rfl (by as_aux_lemma => kernel_rfl) (fun _ _ _ _ h => h) rfl rfl hn rfl (q_move rfl rfl) ?_
  refine d1g (i := 63) [] rfl (by as_aux_lemma => kernel_rfl) (fun _ _ _ _ h => h) (guard_some rfl rfl rfl) rfl hn rfl (fun hc => trivial) (fun hc => q_move rfl rfl) ?_
  refine d1g (i := 64) [(112, _)] rfl (by as_aux_lemma => kernel_rfl) (fun _ _ _ _ h => h) (guard_some rfl rfl rfl) rfl hn rfl (fun hc => ⟨⟨_, rfl, hc⟩, trivial⟩) (fun hc => qv_eq (tv' := .d (.bool true)) (q_eql rfl rfl rfl) rfl) ?_
  refine d1q (i := 65) rfl (by as_aux_lemma => kernel_rfl) (fun _ _ _ _ h => h) rfl rfl hn rfl (qv_eq (tv' := .d (.bool true)) (q_and rfl rfl rfl (by intro hB; first | (rw [hB]; rfl) | (rw [hB, hc]; rfl) | simp_all)) rfl) ?_
  refine d1q (i := 66) rfl (by as_aux_lemma => kernel_rfl) (fun _ _ _ _ h => h) rfl rfl hn rfl (q_move rfl rfl) ?_
  refine d1g (i := 67) [] rfl (by as_aux_lemma => kernel_rfl) (fun _ _ _ _ h => h) (guard_some rfl rfl rfl) rfl hn rfl (fun hc => trivial) (fun hc => q_move rfl rfl) ?_
  refine d1_of_d2 ?_
  refine d2_one (i := 68) (by as_aux_lemma => kernel_rfl) rfl (s_guard (guard_some rfl rfl rfl) rfl (nb hn rfl) (s_buildSlice rfl rfl rfl (nb hn rfl) Tryz.underlying57 sz3 zr3 rfl rfl rfl (show _ = [.d (.int .i64 0)] from by kernel_rfl) (by kernel_rfl) rfl rfl rfl rfl rfl)) fun _ => ?_
  refine d2_of_d1 ?_
  refine d1_of_d2 ?_
  refine d2_one (i := 69) (by as_aux_lemma => kernel_rfl) rfl (s_call [(116, _), (117, _)] (fun hc => ints_ok [1] [1]) rfl (guard_some rfl rfl rfl) rfl (nb hn rfl) (fun hc => ⟨⟨_, rfl, hc⟩, ⟨_, rfl, hc⟩, trivial⟩) rfl rfl (.refl _)) fun _ => ?_
  refine d2_of_d1 ?_
  refine d1q (i := 70) rfl (by as_aux_lemma => kernel_rfl) (fun _ _ _ _ h => h) rfl rfl hn rfl (qv_eq (tv' := .d (.bool true)) (q_and rfl rfl rfl (by intro hB; first | (rw [hB]; rfl) | (rw [hB, hc]; rfl) | simp_all)) rfl) ?_
  refine d1q (i := 71) rfl (by as_aux_lemma => kernel_rfl) (fun _ _ _ _ h => h) rfl rfl hn rfl (q_move rfl rfl) ?_
  refine d1g (i := 72) [] rfl (by as_aux_lemma => kernel_rfl) (fun _ _ _ _ h => h) (guard_some rfl rfl rfl) rfl hn rfl (fun hc => trivial) (fun hc => q_move rfl rfl) ?_
  refine d1g (i := 73) [(121, _)] rfl (by as_aux_lemma => kernel_rfl) (fun _ _ _ _ h => h) (guard_some rfl rfl rfl) rfl hn rfl (fun hc => ⟨⟨_, rfl, hc⟩, trivial⟩) (fun hc => qv_eq (tv' := .d (.bool true)) (q_eql rfl rfl rfl) rfl) ?_
  refine d1q (i := 74) rfl (by as_aux_lemma => kernel_rfl) (fun _ _ _ _ h => h) rfl rfl hn rfl (qv_eq (tv' := .d (.bool true)) (q_and rfl rfl rfl (by intro hB; first | (rw [hB]; rfl) | (rw [hB, hc]; rfl) | simp_all)) rfl) ?_
  refine d1q (i := 75) rfl (by as_aux_lemma => kernel_rfl) (fun _ _ _ _ h => h) rfl rfl hn rfl (q_move rfl rfl) ?_
  refine d1g (i := 76) [] rfl (by as_aux_lemma => kernel_rfl) (fun _ _ _ _ h => h) (guard_some rfl rfl rfl) rfl hn rfl (fun hc => trivial) (fun hc => q_move rfl rfl) ?_
  refine d1_of_d2 ?_
  refine d2_one (i := 77) (by as_aux_lemma => kernel_rfl) rfl (s_guard (guard_some rfl rfl rfl) rfl (nb hn rfl) (s_buildSlice rfl rfl rfl (nb hn rfl) Tryz.underlying57 sz3 zr3 rfl rfl rfl (show _ = [.d (.int .i64 0)] from by kernel_rfl) (by kernel_rfl) rfl rfl rfl rfl rfl)) fun _ => ?_
  refine d2_of_d1 ?_
  refine d1_of_d2 ?_
  refine d2_one (i := 78) (by as_aux_lemma => kernel_rfl) rfl (s_call [(125, _), (126, _)] (fun hc => ints_ok [1] [1]) rfl (guard_some rfl rfl rfl) rfl (nb hn rfl) (fun hc => ⟨⟨_, rfl, hc⟩, ⟨_, rfl, hc⟩, trivial⟩) rfl rfl (.refl _)) fun _ => ?_
  refine d2_of_d1 ?_
  refine d1q (i := 79) rfl (by as_aux_lemma => kernel_rfl) (fun _ _ _ _ h => h) rfl rfl hn rfl (qv_eq (tv' := .d (.bool true)) (q_and rfl rfl rfl (by intro hB; first | (rw [hB]; rfl) | (rw [hB, hc]; rfl) | simp_all)) rfl) ?_
  refine d1q (i := 80) rfl (by as_aux_lemma => kernel_rfl) (fun _ _ _ _ h => h) rfl rfl hn rfl (q_move rfl rfl) ?_
  refine d1g (i := 81) [] rfl (by as_aux_lemma => kernel_rfl) (fun _ _ _ _ h => h) (guard_some rfl rfl rfl) rfl hn rfl (fun hc => trivial) (fun hc => q_move rfl rfl) ?_
  refine d1g (i := 82) [(130, _)] rfl (by as_aux_lemma => kernel_rfl) (fun _ _ _ _ h => h) (guard_some rfl rfl rfl) rfl hn rfl (fun hc => ⟨⟨_, rfl, hc⟩, trivial⟩) (fun hc => qv_eq (tv' := .d (.bool true)) (q_eql rfl rfl rfl) rfl) ?_
  refine d1q (i := 83) rfl (by as_aux_lemma => kernel_rfl) (fun _ _ _ _ h => h) rfl rfl hn rfl (qv_eq (tv' := .d (.bool true)) (q_and rfl rfl rfl (by intro hB; first | (rw [hB]; rfl) | (rw [hB, hc]; rfl) | simp_all)) rfl) ?_
  refine d1q (i := 84) rfl (by as_aux_lemma => kernel_rfl) (fun _ _ _ _ h => h) rfl rfl hn rfl (q_move rfl rfl) ?_
  refine d1g (i := 85) [] rfl (by as_aux_lemma => kernel_rfl) (fun _ _ _ _ h => h) (guard_some rfl rfl rfl) rfl hn rfl (fun hc => trivial) (fun hc => q_move rfl rfl) ?_
  refine d1g (i := 86) [(134, _)] rfl (by as_aux_lemma => kernel_rfl) (fun _ _ _ _ h => h) (guard_some rfl rfl rfl) rfl hn rfl (fun hc => ⟨⟨_, rfl, hc⟩, trivial⟩) (fun hc => qv_eq (tv' := .d (.bool true)) (q_eqlS rfl rfl rfl) rfl) ?_
  refine d1q (i := 87) rfl (by as_aux_lemma => kernel_rfl) (fun _ _ _ _ h => h) rfl rfl hn rfl (qv_eq (tv' := .d (.bool true)) (q_and rfl rfl rfl (by intro hB; first | (rw [hB]; rfl) | (rw [hB, hc]; rfl) | simp_all)) rfl) ?_
  refine d1q (i := 88) rfl (by as_aux_lemma => kernel_rfl) (fun _ _ _ _ h => h) rfl rfl hn rfl (q_move rfl rfl) ?_
  refine d1_of_d2 ?_
  refine d2_all 89 [90] (by kernel_rfl) ⟨?_, ?_, trivial⟩
  · skip
    refine br rfl (s_call [] (fun hc => two_ok) rfl (guard_some rfl rfl rfl) rfl (nb hn rfl) (fun hc => trivial) rfl rfl (.refl _)) fun _ => ?_
    refine d2_of_d1 ?_
    refine d1_of_d2 ?_
    refine d2_one (i := 90) (by as_aux_lemma => kernel_rfl) rfl (s_guard (guard_some rfl rfl rfl) rfl (nb hn rfl) (s_buildSlice rfl rfl rfl (nb hn rfl) Tryz.underlying57 sz3 zr3 rfl rfl rfl (show _ = [.d (.int .i64 0), .d (.int .i64 0), .d (.int .i64 0), .d (.int .i64 0)] from by kernel_rfl) (by kernel_rfl) rfl rfl rfl rfl rfl)) fun _ => ?_
    refine d2_of_d1 ?_
    refine d1_of_d2 ?_
    refine d2_one (i := 91) (by as_aux_lemma => kernel_rfl) rfl (s_call [(138, _), (139, _)] (fun hc => (by have h := ProveTruth_ok twoB earlyS [306, 309, 81, 87] two_names (by decide); rw [e_prove] at h; exact h)) rfl (guard_some rfl rfl rfl) rfl (nb hn rfl) (fun hc => ⟨⟨_, rfl, hc⟩, ⟨_, rfl, hc⟩, trivial⟩) rfl rfl (.refl _)) fun _ => ?_
    refine d2_of_d1 ?_
    refine d1q (i := 92) rfl (by as_aux_lemma => kernel_rfl) (fun _ _ _ _ h => h) rfl rfl hn rfl (qv_eq (tv' := .d (.bool true)) (q_and rfl rfl rfl (by intro hB; first | (rw [hB]; rfl) | (rw [hB, hc]; rfl) | simp_all)) rfl) ?_
    refine d1q (i := 93) rfl (by as_aux_lemma => kernel_rfl) (fun _ _ _ _ h => h) rfl rfl hn rfl (q_assign rfl rfl) ?_
    refine d1_of_d2 ?_
    refine d2_done (by as_aux_lemma => kernel_rfl) ?_
    refine aend_then ?_
    refine awp_ret ?_
    exact ret_E (.inl rfl) () ((hands_1 rfl (.tmp rfl)).eq (by rfl)) trivial
  · skip
    refine br rfl (s_guard (guard_some rfl rfl rfl) rfl (nb hn rfl) (s_buildSlice rfl rfl rfl (nb hn rfl) Tryz.underlying57 sz3 zr3 rfl rfl rfl (show _ = [.d (.int .i64 0), .d (.int .i64 0), .d (.int .i64 0), .d (.int .i64 0)] from by kernel_rfl) (by kernel_rfl) rfl rfl rfl rfl rfl)) fun _ => ?_
    refine d2_of_d1 ?_
    refine d1_of_d2 ?_
    refine d2_one (i := 89) (by kernel_rfl) rfl (s_call [] (fun hc => two_ok) rfl (guard_some rfl rfl rfl) rfl (nb hn rfl) (fun hc => trivial) rfl rfl (.refl _)) fun _ => ?_
    refine d2_of_d1 ?_
    refine d1_of_d2 ?_
    refine d2_one (i := 91) (by kernel_rfl) rfl (s_call [(138, _), (139, _)] (fun hc => (by have h := ProveTruth_ok twoB earlyS [306, 309, 81, 87] two_names (by decide); rw [e_prove] at h; exact h)) rfl (guard_some rfl rfl rfl) rfl (nb hn rfl) (fun hc => ⟨⟨_, rfl, hc⟩, ⟨_, rfl, hc⟩, trivial⟩) rfl rfl (.refl _)) fun _ => ?_
    refine d2_of_d1 ?_
    refine d1q (i := 92) rfl (by kernel_rfl) (fun _ _ _ _ h => h) rfl rfl hn rfl (qv_eq (tv' := .d (.bool true)) (q_and rfl rfl rfl (by intro hB; first | (rw [hB]; rfl) | (rw [hB, hc]; rfl) | simp_all)) rfl) ?_
    refine d1q (i := 93) rfl (by kernel_rfl) (fun _ _ _ _ h => h) rfl rfl hn rfl (q_assign rfl rfl) ?_
    refine d1_of_d2 ?_
    refine d2_done (by kernel_rfl) ?_
    refine aend_then ?_
    refine awp_ret ?_
    exact ret_E (.inl rfl) () ((hands_1 rfl (.tmp rfl)).eq (by rfl)) trivial
theorem awake_ok : PureAt Tryz.prog 17 [] (.bool true) := PureAt.of_eff (ds := []) awake_eff
end Go.Proofs.YtplpcamcnppibaaGreatDoor
namespace Go.Proofs.YtplpcamcnppibaaGreatDoor
open Go.RowKit
set_option maxRecDepth 20000
set_option linter.all false
theorem thin_bd {b : Brd} {n : Nat} (h : thinT b n = true) : b.stocks.length ≤ 7 ∧ n ≤ 200 := by
  unfold thinT at h
  simp only [Bool.and_eq_true, decide_eq_true_eq] at h
  omega
end Go.Proofs.YtplpcamcnppibaaGreatDoor
namespace Go.Proofs.YtplpcamcnppibaaGreatDoor
open Go.RowKit
set_option maxRecDepth 20000
set_option linter.all false
def prt0 : Prt := ⟨-1, 0, 0, 0, false, 0, 0, 0⟩
end Go.Proofs.YtplpcamcnppibaaGreatDoor
namespace Go.Proofs.YtplpcamcnppibaaGreatDoor
open Go.RowKit
set_option maxRecDepth 20000
set_option linter.all false
theorem shr_rem {b i : Nat} : ((((b : Int) / 2 ^ ((i : Int)).toNat).tmod 2) == 1) = b.testBit i := by
  have : (b : Int) / 2 ^ ((i : Int)).toNat = ((b / 2 ^ i : Nat) : Int) := by simp
  rw [this, Nat.testBit_eq_decide_div_mod_eq, show (((b / 2 ^ i : Nat) : Int).tmod 2) = ((b / 2 ^ i % 2 : Nat) : Int) from rfl]
  generalize b / 2 ^ i % 2 = x
  rw [Bool.eq_iff_iff, beq_iff_eq, decide_eq_true_eq]
  omega
def refFits (p : Prt) (i : Nat) (x : Int) (o : Nat) : Bool := withinB x 1 799 && (o.testBit i || (p.full && x == p.fig || !p.full && x.tmod 80 == p.fig))
def nearB (a b m : Int) : Bool := decide (a - b ≤ m) && decide (b - a ≤ m)
/-- The last of the first k that is of a stock. -/
def aheadGo (l : List Prt) (st : Int) : Nat → Int
  | 0 => -1
  | k + 1 => bif (l.getD k prt0).stock == st then (k : Nat) else aheadGo l st k
def aheadI (l : List Prt) (i : Nat) : Int := aheadGo l (l.getD i prt0).stock i
def stk0 : Stk := ⟨[], 0, 0⟩
theorem ahead_lt {l : List Prt} {st : Int} : ∀ {i : Nat}, aheadGo l st i < (i : Nat)
  | 0 => by unfold aheadGo; omega
  | i + 1 => by
    have := ahead_lt (l := l) (st := st) (i := i)
    unfold aheadGo
    cases (l.getD i prt0).stock == st
    · simp only [cond_false]; omega
    · simp only [cond_true]; omega
theorem ahead_iff {l : List Prt} {st : Int} : ∀ {i j : Nat}, aheadGo l st i = (j : Nat) ↔ j < i ∧ (l.getD j prt0).stock = st ∧ ∀ k, j < k → k < i → (l.getD k prt0).stock ≠ st
  | 0, j => by unfold aheadGo; constructor
               · intro h; omega
               · intro h; omega
  | i + 1, j => by
    unfold aheadGo
    cases h : (l.getD i prt0).stock == st
    · rw [cond_false, ahead_iff]
      have hne : (l.getD i prt0).stock ≠ st := by simpa using h
      constructor
      · rintro ⟨h1, h2, h3⟩
        refine ⟨by omega, h2, fun k hk hk2 => ?_⟩
        by_cases e : k = i
        · subst e; exact hne
        · exact h3 k hk (by omega)
      · rintro ⟨h1, h2, h3⟩
        refine ⟨?_, h2, fun k hk hk2 => h3 k hk (by omega)⟩
        by_cases e : j = i
        · subst e; exact (hne h2).elim
        · omega
    · rw [cond_true]
      have he : (l.getD i prt0).stock = st := by simpa using h
      constructor
      · intro h
        obtain rfl : i = j := by omega
        exact ⟨by omega, he, fun k hk hk2 => by omega⟩
      · rintro ⟨h1, h2, h3⟩
        by_cases e : j = i
        · rw [e]
        · exact (h3 i (by omega) (by omega) he).elim
theorem ahead_nat {l : List Prt} {st : Int} {i : Nat} (h : 0 ≤ aheadGo l st i) : ∃ k : Nat, aheadGo l st i = (k : Nat) ∧ k < i := ⟨(aheadGo l st i).toNat, by omega, by have := ahead_lt (l := l) (st := st) (i := i); omega⟩
theorem fits_bd {p : Prt} {i : Nat} {x : Int} {o : Nat} (h : refFits p i x o = true) : 1 ≤ x ∧ x ≤ 799 := by
  unfold refFits at h
  exact within_iff.1 (Bool.and_eq_true_iff.1 h).1
theorem Fits_ok (p : Prt) (i : Nat) (x : Int) (o : Nat) (hi : i < 64) (ho : o < 9223372036854775808) : PureAt Tryz.prog 77 [.agg (prtE p), .int .i64 (i : Nat), .int .i64 x, .int .i64 (o : Nat)] (.bool (refFits p i x o)) := by
  refine PureAt.of_awp Tryz.func77 rfl (by kernel_rfl) (Nat.le_of_ble_eq_true rfl) fun Γ hn hl => ?_
  refine awp_seq ?_
  refine awp_region ?_
  refine stepW (s_box 4 rfl rfl rfl (nb hn rfl) rfl rfl) fun b4 => ?_
  refine sq rfl rfl hn rfl (q_assign rfl rfl) ?_
  refine run_nil ?_
  refine aend_then ?_
  refine awp_seq ?_
  refine awp_seq ?_
  refine awp_region ?_
  refine sq rfl rfl hn rfl (q_move rfl rfl) ?_
  refine stepW (s_call [] (fun _ => In_ok _ _ _) rfl (guard_none rfl) rfl (nb hn rfl) (fun _ => trivial) rfl rfl (.refl _)) fun _ => ?_
  refine sq rfl rfl hn rfl (q_not rfl rfl) ?_
  refine run_nil ?_
  refine aend_then ?_
  refine awp_cond rfl (fun hb0 => ?_) (fun hb0 => ?_)
  · skip
    have q0 : withinB x 1 799 = false := by simpa using hb0
    have e1 : refFits p i x o = false := by unfold refFits; rw [q0]; rfl
    rw [e1]
    refine awp_seq ?_
    refine awp_region ?_
    refine sq rfl rfl hn rfl (q_assign rfl rfl) ?_
    refine run_nil ?_
    refine aend_then ?_
    refine awp_ret ?_
    refine aend_then_ret ?_
    exact ret_1 (.inl rfl) hl rfl (.tmp rfl)
  · skip
    have q0 : withinB x 1 799 = true := by simpa using hb0
    refine awp_skip ?_
    refine aend_then ?_
    refine awp_seq ?_
    refine awp_seq ?_
    refine awp_region ?_
    refine sq rfl rfl hn rfl (q_move rfl rfl) ?_
    refine sq rfl rfl hn rfl (q_move rfl rfl) ?_
    refine sq rfl rfl hn rfl (q_conv rfl rfl Tryz.underlying3 Tryz.underlying100 (u64w (by omega) rfl)) ?_
    refine sq rfl rfl hn rfl (q_shr rfl rfl rfl (by omega) (by simp [IntKind.bits]; omega)) ?_
    refine sq rfl rfl hn rfl (q_rem rfl rfl rfl (by omega) rfl) ?_
    refine sq rfl rfl hn rfl (q_eql rfl rfl rfl) ?_
    refine run_nil ?_
    refine aend_then ?_
    rw [shr_rem]
    refine awp_cond rfl (fun hb1 => ?_) (fun hb1 => ?_)
    · skip
      have q1 : o.testBit i = true := hb1
      have e1 : refFits p i x o = true := by unfold refFits; rw [q0, q1]; rfl
      rw [e1]
      refine awp_seq ?_
      refine awp_region ?_
      refine sq rfl rfl hn rfl (q_assign rfl rfl) ?_
      refine run_nil ?_
      refine aend_then ?_
      refine awp_ret ?_
      refine aend_then_ret ?_
      exact ret_1 (.inl rfl) hl rfl (.tmp rfl)
    · skip
      have q1 : o.testBit i = false := hb1
      have e1 : refFits p i x o = (p.full && x == p.fig || !p.full && x.tmod 80 == p.fig) := by unfold refFits; rw [q0, q1]; rfl
      rw [e1]
      refine awp_skip ?_
      refine aend_then ?_
      refine awp_seq ?_
      refine awp_region ?_
      refine sq rfl rfl hn rfl (q_fieldAddr rfl rfl Tryz.underlying43 rfl sz4) ?_
      refine sq rfl rfl hn rfl (q_load rfl rfl (id := 4) rfl Tryz.underlying4 rfl rfl sees0) ?_
      refine sq rfl rfl hn rfl (q_move rfl rfl) ?_
      refine stepG [] (guard_some rfl rfl rfl) rfl (nb hn rfl) (fun hc => trivial) (fun hc => q_move rfl rfl) ?_
      refine stepG [] (guard_some rfl rfl rfl) rfl (nb hn rfl) (fun hc => trivial) (fun hc => q_fieldAddr rfl rfl Tryz.underlying43 rfl sz3) ?_
      refine stepG [(22, _)] (guard_some rfl rfl rfl) rfl (nb hn rfl) (fun hc => ⟨⟨_, rfl, hc⟩, trivial⟩) (fun hc => q_load rfl rfl (id := 4) rfl Tryz.underlying3 rfl rfl sees0) ?_
      refine stepG [(21, _), (23, _)] (guard_some rfl rfl rfl) rfl (nb hn rfl) (fun hc => ⟨⟨_, rfl, hc⟩, ⟨_, rfl, hc⟩, trivial⟩) (fun hc => q_eql rfl rfl rfl) ?_
      refine sq rfl rfl hn rfl (q_and rfl rfl rfl (by intro hB; first | (rw [hB]; rfl) | (rw [hB, hc]; rfl) | simp_all)) ?_
      refine sq rfl rfl hn rfl (q_move rfl rfl) ?_
      refine stepG [] (guard_some rfl rfl rfl) rfl (nb hn rfl) (fun hc => trivial) (fun hc => q_fieldAddr rfl rfl Tryz.underlying43 rfl sz4) ?_
      refine stepG [(27, _)] (guard_some rfl rfl rfl) rfl (nb hn rfl) (fun hc => ⟨⟨_, rfl, hc⟩, trivial⟩) (fun hc => q_load rfl rfl (id := 4) rfl Tryz.underlying4 rfl rfl sees0) ?_
      refine stepG [(28, _)] (guard_some rfl rfl rfl) rfl (nb hn rfl) (fun hc => ⟨⟨_, rfl, hc⟩, trivial⟩) (fun hc => q_not rfl rfl) ?_
      refine stepG [(29, _)] (guard_some rfl rfl rfl) rfl (nb hn rfl) (fun hc => ⟨⟨_, rfl, hc⟩, trivial⟩) (fun hc => q_move rfl rfl) ?_
      refine stepG [] (guard_some rfl rfl rfl) rfl (nb hn rfl) (fun hc => trivial) (fun hc => q_move rfl rfl) ?_
      refine stepG [(31, _)] (guard_some rfl rfl rfl) rfl (nb hn rfl) (fun hc => ⟨⟨_, rfl, hc⟩, trivial⟩) (fun hc => q_rem rfl rfl rfl (by omega) rfl) ?_
      refine stepG [] (guard_some rfl rfl rfl) rfl (nb hn rfl) (fun hc => trivial) (fun hc => q_fieldAddr rfl rfl Tryz.underlying43 rfl sz3) ?_
      refine stepG [(33, _)] (guard_some rfl rfl rfl) rfl (nb hn rfl) (fun hc => ⟨⟨_, rfl, hc⟩, trivial⟩) (fun hc => q_load rfl rfl (id := 4) rfl Tryz.underlying3 rfl rfl sees0) ?_
      refine stepG [(32, _), (34, _)] (guard_some rfl rfl rfl) rfl (nb hn rfl) (fun hc => ⟨⟨_, rfl, hc⟩, ⟨_, rfl, hc⟩, trivial⟩) (fun hc => q_eql rfl rfl rfl) ?_
      refine stepG [(30, _)] (guard_some rfl rfl rfl) rfl (nb hn rfl) (fun hc => ⟨⟨_, rfl, hc⟩, trivial⟩) (fun hc => q_and rfl rfl rfl (by intro hB; first | (rw [hB]; rfl) | (rw [hB, hc]; rfl) | simp_all)) ?_
      refine sq rfl rfl hn rfl (q_or rfl rfl rfl (by intro hB; first | (rw [hB]; rfl) | (rw [hB, hc]; rfl) | simp_all)) ?_
      refine sq rfl rfl hn rfl (q_assign rfl rfl) ?_
      refine run_nil ?_
      refine aend_then ?_
      refine awp_ret ?_
      exact ret_1 (.inl rfl) hl rfl (.tmp rfl)
end Go.Proofs.YtplpcamcnppibaaGreatDoor
namespace Go.Proofs.YtplpcamcnppibaaGreatDoor
open Go.RowKit
set_option linter.all false
def stepsF (b : Brd) (l : List Prt) (j : Nat) (f : Nat → Int) : Bool := bif decide (0 ≤ aheadI l j) then nearB (f j) (f (aheadI l j).toNat) b.jump
  else withinB (f j) ((b.stocks.getD (l.getD j prt0).stock.toNat stk0).lo - b.jump) ((b.stocks.getD (l.getD j prt0).stock.toNat stk0).hi + b.jump)
def OkF (b : Brd) (l : List Prt) (o j : Nat) (f : Nat → Int) : Prop := refFits (l.getD j prt0) j (f j) o = true ∧ stepsF b l j f = true
def TruF (b : Brd) (l : List Prt) (o : Nat) (f : Nat → Int) : Prop := ∀ j, j < l.length → OkF b l o j f
theorem stepsF_congr {b : Brd} {l : List Prt} {j : Nat} {f g : Nat → Int} (h1 : f j = g j) (h2 : ∀ k : Nat, aheadI l j = (k : Nat) → f k = g k) : stepsF b l j f = stepsF b l j g := by
  unfold stepsF
  by_cases h : 0 ≤ aheadI l j
  · rw [decide_eq_true h, cond_true, cond_true, h1, h2 _ (show aheadI l j = ((aheadI l j).toNat : Nat) by omega)]
  · rw [decide_eq_false h, cond_false, cond_false, h1]
theorem OkF.congr {b : Brd} {l : List Prt} {o j : Nat} {f g : Nat → Int} (h : OkF b l o j f) (h1 : f j = g j) (h2 : ∀ k : Nat, aheadI l j = (k : Nat) → f k = g k) : OkF b l o j g := ⟨by rw [← h1]; exact h.1, by rw [← stepsF_congr h1 h2]; exact h.2⟩
theorem OkF.bd {b : Brd} {l : List Prt} {o j : Nat} {f : Nat → Int} (h : OkF b l o j f) : 1 ≤ f j ∧ f j ≤ 799 := fits_bd h.1
theorem near_iff {a b m : Int} : nearB a b m = true ↔ a - b ≤ m ∧ b - a ≤ m := by unfold nearB; simp only [Bool.and_eq_true, decide_eq_true_eq]
theorem ok_step {b : Brd} {l : List Prt} {o j k : Nat} {f : Nat → Int} (hk : aheadI l j = (k : Nat)) : OkF b l o j f ↔ refFits (l.getD j prt0) j (f j) o = true ∧ f j - f k ≤ b.jump ∧ f k - f j ≤ b.jump := by
  unfold OkF stepsF
  rw [hk, decide_eq_true (by omega), cond_true, Int.toNat_natCast, near_iff]
/-- A truth that begins so. -/
def Begs (b : Brd) (l : List Prt) (o : Nat) (ts : List Int) (f : Nat → Int) : Prop := TruF b l o f ∧ ∀ j, j < ts.length → f j = ts.getD j 0
theorem getD_app {ts : List Int} {p : Int} {j : Nat} (h : j < ts.length) : (ts ++ [p]).getD j 0 = ts.getD j 0 := by
  rw [List.getD_eq_getElem?_getD, List.getElem?_append_left h, ← List.getD_eq_getElem?_getD]
theorem getD_end {ts : List Int} {p : Int} : (ts ++ [p]).getD ts.length 0 = p := by simp
theorem Begs.add {b : Brd} {l : List Prt} {o : Nat} {ts : List Int} {p : Int} {f : Nat → Int} : Begs b l o (ts ++ [p]) f ↔ Begs b l o ts f ∧ f ts.length = p := by
  constructor
  · rintro ⟨h1, h2⟩
    refine ⟨⟨h1, fun j hj => ?_⟩, ?_⟩
    · rw [h2 j (by simp; omega), getD_app hj]
    · rw [h2 ts.length (by simp), getD_end]
  · rintro ⟨⟨h1, h2⟩, h3⟩
    refine ⟨h1, fun j hj => ?_⟩
    by_cases e : j = ts.length
    · subst e; rw [h3, getD_end]
    · have : j < ts.length := by simp at hj; omega
      rw [h2 j this, getD_app this]
end Go.Proofs.YtplpcamcnppibaaGreatDoor
namespace Go.Proofs.YtplpcamcnppibaaGreatDoor
open Go.RowKit
set_option linter.all false
/-- What is left out, as bits. -/
def OutOK (l : List Prt) (out : List Int) (o : Nat) : Prop := ∀ i, i < l.length → out.contains ((i : Nat) : Int) = o.testBit i
theorem fits_out {l : List Prt} {out : List Int} {o : Nat} (h : OutOK l out o) {i : Nat} {s : Prt} {x : Int} (hs : l[i]? = some s) : refFits s i x o = (withinB x 1 799 && fitsB s (i : Nat) x out) := by
  unfold refFits fitsB
  rw [h i (List.getElem?_eq_some_iff.1 hs).1]
  cases o.testBit i <;> cases s.full <;> simp
def PreF (b : Brd) (l : List Prt) (o : Nat) (k : Int) (i : Nat) (f : Nat → Int) : Prop := ∀ j, j < i → (l.getD j prt0).stock = k → OkF b l o j f
theorem PreF.mono {b : Brd} {l : List Prt} {o : Nat} {k : Int} {i j : Nat} {f : Nat → Int} (h : PreF b l o k i f) (hj : j ≤ i) : PreF b l o k j f := fun a ha hs => h a (by omega) hs
/-- What the last sale of a stock before i can be; its Start if there is none. -/
def FwdN (b : Brd) (l : List Prt) (o : Nat) (k : Int) (st : Stk) (i : Nat) (p : Nat) : Prop := ∃ f : Nat → Int, PreF b l o k i f ∧ ((aheadGo l k i < 0 ∧ st.lo ≤ (p : Int) ∧ (p : Int) ≤ st.hi) ∨ ∃ a : Nat, aheadGo l k i = (a : Nat) ∧ f a = (p : Nat))
structure FwdI (b : Brd) (l : List Prt) (o : Nat) (k : Int) (st : Stk) (ms0 : List Nat) (i now : Nat) (ms : List Nat) : Prop where
  len : ms.length = l.length
  nw : ∀ p, p < 800 → (now.testBit p = true ↔ FwdN b l o k st i p)
  can : Can now
  lv : ∀ j, j < i → (l.getD j prt0).stock = k → ∀ p, p < 800 → ((ms.getD j 0).testBit p = true ↔ ∃ f, PreF b l o k (j + 1) f ∧ f j = (p : Nat))
  ot : ∀ j, (l.getD j prt0).stock ≠ k ∨ i ≤ j → ms.getD j 0 = ms0.getD j 0
theorem getD_set {ms : List Nat} {i j m : Nat} (h : i < ms.length) : (ms.set i m).getD j 0 = if i = j then m else ms.getD j 0 := by
  rw [List.getD_eq_getElem?_getD, List.getElem?_set]
  by_cases e : i = j
  · subst e; rw [if_pos rfl, if_pos h, if_pos rfl]; rfl
  · rw [if_neg e, if_neg e, ← List.getD_eq_getElem?_getD]
theorem ahead_next {l : List Prt} {i : Nat} {k : Int} (h : (l.getD i prt0).stock = k) : aheadGo l k (i + 1) = (i : Nat) := by
  rw [aheadGo, show ((l.getD i prt0).stock == k) = true by simpa using h]; rfl
theorem ahead_skip {l : List Prt} {i : Nat} {k : Int} (h : (l.getD i prt0).stock ≠ k) : aheadGo l k (i + 1) = aheadGo l k i := by
  rw [aheadGo, show ((l.getD i prt0).stock == k) = false by simpa using h]; rfl
theorem ok_start {b : Brd} {l : List Prt} {o j : Nat} {f : Nat → Int} {st : Stk} (hk : aheadI l j < 0) (hst : b.stocks.getD (l.getD j prt0).stock.toNat stk0 = st) : OkF b l o j f ↔ refFits (l.getD j prt0) j (f j) o = true ∧ st.lo - b.jump ≤ f j ∧ f j ≤ st.hi + b.jump := by
  unfold OkF stepsF
  rw [decide_eq_false (by omega), cond_false, hst, within_iff]
theorem PreF.congr {b : Brd} {l : List Prt} {o : Nat} {k : Int} {i : Nat} {f g : Nat → Int} (h : PreF b l o k i f) (e : ∀ j, j < i → (l.getD j prt0).stock = k → f j = g j) : PreF b l o k i g := fun j hj hs => (h j hj hs).congr (e j hj hs) fun a ha => by
  have ha' : aheadGo l (l.getD j prt0).stock j = (a : Nat) := ha
  obtain ⟨a1, a2, _⟩ := ahead_iff.1 ha'
  exact e a (by omega) (a2.trans hs)
/-- One sale more, forward. -/
theorem fwd_one {b : Brd} {l : List Prt} {out : List Int} {o : Nat} {st : Stk} {k i J : Nat} {p : Nat} {s : Prt} {now : Nat} (hO : OutOK l out o) (hJ : b.jump = (J : Nat)) (hst : b.stocks[k]? = some st) (hso : 1 ≤ st.lo ∧ st.lo ≤ st.hi ∧ st.hi ≤ 799) (hs : l[i]? = some s) (hk : s.stock = (k : Int)) (hp : p < 800)
    (hn : ∀ p, p < 800 → (now.testBit p = true ↔ FwdN b l o (k : Int) st i p)) : (ownN s i out (nearN now J)).testBit p = true ↔ ∃ f, PreF b l o (k : Int) (i + 1) f ∧ f i = (p : Nat) := by
  unfold ownN
  rw [maskOf_bit, decide_eq_true hp, Bool.true_and, Bool.and_eq_true_iff, nearN_bit]
  have hg : l.getD i prt0 = s := getD_of hs
  have hai : aheadI l i = aheadGo l (k : Int) i := by unfold aheadI; rw [hg, hk]
  have hbs : b.stocks.getD (l.getD i prt0).stock.toNat stk0 = st := by rw [hg, hk, Int.toNat_natCast]; exact getD_of hst
  have hst2 : (l.getD i prt0).stock = (k : Int) := by rw [hg]; exact hk
  constructor
  · rintro ⟨⟨h1, _, p', hp', hb, hn1, hn2⟩, hf⟩
    obtain ⟨f, hpre, hc⟩ := (hn p' hp').1 hb
    have hfit : refFits s i (p : Nat) o = true := by rw [fits_out hO hs, hf, Bool.and_true]; exact within_iff.2 ⟨by omega, by omega⟩
    refine ⟨fun j => if j = i then (p : Nat) else f j, fun j hj hjs => ?_, if_pos rfl⟩
    by_cases e : j = i
    · subst e
      rcases hc with ⟨h2, h3, h4⟩ | ⟨a, ha, hfa⟩
      · refine (ok_start (by omega) hbs).2 ?_
        rw [if_pos rfl, hg]
        exact ⟨hfit, by omega, by omega⟩
      · have hlt := ahead_lt (l := l) (st := (k : Int)) (i := j)
        refine (ok_step (k := a) (by omega)).2 ?_
        rw [if_pos rfl, if_neg (by omega), hfa, hg]
        exact ⟨hfit, by omega, by omega⟩
    · refine (hpre j (by omega) hjs).congr (by (try dsimp only); rw [if_neg e]) fun a ha => ?_
      have ha' : aheadGo l (l.getD j prt0).stock j = (a : Nat) := ha
      have hlt := ahead_lt (l := l) (st := (l.getD j prt0).stock) (i := j)
      rw [if_neg (by omega)]
  · rintro ⟨f, hpre, hfi⟩
    have h0 := hpre i (by omega) hst2
    have hb0 := h0.bd
    rw [hfi] at hb0
    have hfit := h0.1
    rw [hg, hfi, fits_out hO hs, Bool.and_eq_true_iff] at hfit
    refine ⟨⟨by omega, by omega, ?_⟩, hfit.2⟩
    by_cases ha : aheadGo l (k : Int) i < 0
    · have h1 := (ok_start (by omega) hbs).1 h0
      rw [hfi] at h1
      refine ⟨(max st.lo (min st.hi (p : Int))).toNat, by omega, ?_, by omega, by omega⟩
      exact (hn _ (by omega)).2 ⟨f, hpre.mono (by omega), .inl ⟨ha, by omega, by omega⟩⟩
    · obtain ⟨a, haa, hai2⟩ := ahead_nat (l := l) (st := (k : Int)) (i := i) (by omega)
      have h1 := (ok_step (k := a) (by omega)).1 h0
      obtain ⟨_, a2, _⟩ := ahead_iff.1 haa
      have hba := (hpre a (by omega) a2).bd
      obtain ⟨q, hq⟩ : ∃ q : Nat, f a = (q : Nat) := ⟨(f a).toNat, by omega⟩
      rw [hfi, hq] at h1
      rw [hq] at hba
      exact ⟨q, by omega, (hn q (by omega)).2 ⟨f, hpre.mono (by omega), .inr ⟨a, haa, hq⟩⟩, by omega, by omega⟩
theorem FwdI.step {b : Brd} {l : List Prt} {out : List Int} {o : Nat} {st : Stk} {k i J : Nat} {s : Prt} {now : Nat} {ms0 ms : List Nat} (hO : OutOK l out o) (hJ : b.jump = (J : Nat)) (hst : b.stocks[k]? = some st) (hso : 1 ≤ st.lo ∧ st.lo ≤ st.hi ∧ st.hi ≤ 799) (hs : l[i]? = some s) (hk : s.stock = (k : Int))
    (h : FwdI b l o (k : Int) st ms0 i now ms) : FwdI b l o (k : Int) st ms0 (i + 1) (ownN s i out (nearN now J)) (ms.set i (ownN s i out (nearN now J))) := by
  have hil := (List.getElem?_eq_some_iff.1 hs).1
  have hst2 : (l.getD i prt0).stock = (k : Int) := by rw [getD_of hs]; exact hk
  have h1 := fun p (hp : p < 800) => fwd_one (p := p) hO hJ hst hso hs hk hp h.nw
  refine ⟨by rw [List.length_set]; exact h.len, fun p hp => (h1 p hp).trans ?_, can_own _ _ _ _, fun j hj hjs p hp => ?_, fun j hj => ?_⟩
  · unfold FwdN
    rw [ahead_next hst2]
    constructor
    · rintro ⟨f, hf, hfi⟩
      exact ⟨f, hf, .inr ⟨i, rfl, hfi⟩⟩
    · rintro ⟨f, hf, h2 | ⟨a, ha, hfa⟩⟩
      · omega
      · obtain rfl : i = a := by omega
        exact ⟨f, hf, hfa⟩
  · rw [getD_set (by rw [h.len]; exact hil)]
    by_cases e : i = j
    · subst e; rw [if_pos rfl]; exact h1 p hp
    · rw [if_neg e]; exact h.lv j (by omega) hjs p hp
  · rw [getD_set (by rw [h.len]; exact hil)]
    have hne : i ≠ j := by
      rintro rfl
      rcases hj with hj | hj
      · exact hj hst2
      · omega
    rw [if_neg hne]
    refine h.ot j ?_
    rcases hj with hj | hj
    · exact .inl hj
    · exact .inr (by omega)
theorem FwdI.skip {b : Brd} {l : List Prt} {o : Nat} {st : Stk} {k : Int} {i : Nat} {s : Prt} {now : Nat} {ms0 ms : List Nat} (hs : l[i]? = some s) (hk : s.stock ≠ k) (h : FwdI b l o k st ms0 i now ms) : FwdI b l o k st ms0 (i + 1) now ms := by
  have hne : (l.getD i prt0).stock ≠ k := by rw [getD_of hs]; exact hk
  refine ⟨h.len, fun p hp => (h.nw p hp).trans ?_, h.can, fun j hj hjs p hp => h.lv j ?_ hjs p hp, fun j hj => h.ot j ?_⟩
  · unfold FwdN
    rw [ahead_skip hne]
    constructor
    · rintro ⟨f, hf, hc⟩
      exact ⟨f, fun j hj hjs => hf j (by
        rcases Nat.lt_or_ge j i with h1 | h1
        · exact h1
        · obtain rfl : j = i := by omega
          exact (hne hjs).elim) hjs, hc⟩
    · rintro ⟨f, hf, hc⟩
      exact ⟨f, hf.mono (by omega), hc⟩
  · rcases Nat.lt_or_ge j i with h1 | h1
    · exact h1
    · obtain rfl : j = i := by omega
      exact (hne hjs).elim
  · rcases hj with hj | hj
    · exact .inl hj
    · exact .inr (by omega)
structure BwdI (b : Brd) (l : List Prt) (o : Nat) (k : Int) (ms0 : List Nat) (i now : Nat) (ms : List Nat) : Prop where
  len : ms.length = l.length
  nw : ∀ a : Nat, aheadGo l k i = (a : Nat) → ∀ p, p < 800 → (∃ f, PreF b l o k (a + 1) f ∧ f a = (p : Nat)) → (now.testBit p = true ↔ ∃ f, PreF b l o k l.length f ∧ f a = (p : Nat))
  lo : ∀ j, j < i → (l.getD j prt0).stock = k → ∀ p, p < 800 → ((ms.getD j 0).testBit p = true ↔ ∃ f, PreF b l o k (j + 1) f ∧ f j = (p : Nat))
  hi : ∀ j, i ≤ j → j < l.length → (l.getD j prt0).stock = k → ∀ p, p < 800 → ((ms.getD j 0).testBit p = true ↔ ∃ f, PreF b l o k l.length f ∧ f j = (p : Nat))
  ot : ∀ j, (l.getD j prt0).stock ≠ k → ms.getD j 0 = ms0.getD j 0
/-- The levels when the stocks before k are done. -/
structure LvlI (b : Brd) (l : List Prt) (o : Nat) (k : Nat) (ms : List Nat) : Prop where
  len : ms.length = l.length
  ex : ∀ c : Nat, c < k → ∃ f, PreF b l o (c : Int) l.length f
  lv : ∀ j, j < l.length → ∀ c : Nat, c < k → (l.getD j prt0).stock = (c : Int) → ∀ p, p < 800 → ((ms.getD j 0).testBit p = true ↔ ∃ f, PreF b l o (c : Int) l.length f ∧ f j = (p : Nat))
end Go.Proofs.YtplpcamcnppibaaGreatDoor
namespace Go.Proofs.YtplpcamcnppibaaGreatDoor
open Go.RowKit
set_option linter.all false
set_option maxHeartbeats 4000000
/-- Rising numbers of a range. -/
def RisI (n : Int) : Int → List Int → Prop
  | _, [] => True
  | f, x :: r => f ≤ x ∧ x < n ∧ RisI n (x + 1) r
theorem RisI.len {n : Int} : ∀ {s : List Int} {f : Int}, RisI n f s → s = [] ∨ f + (s.length : Int) ≤ n
  | [], _, _ => .inl rfl
  | x :: r, f, ⟨h1, h2, h3⟩ => by
    right
    rcases RisI.len h3 with rfl | h
    · simp only [List.length_cons, List.length_nil]; omega
    · simp only [List.length_cons]; omega
theorem RisI.mono {n : Int} : ∀ {s : List Int} {f g : Int}, RisI n f s → g ≤ f → RisI n g s
  | [], _, _, _, _ => trivial
  | x :: r, f, g, ⟨h1, h2, h3⟩, h => ⟨by omega, h2, h3⟩
end Go.Proofs.YtplpcamcnppibaaGreatDoor
namespace Go.Proofs.YtplpcamcnppibaaGreatDoor
open Go.RowKit
set_option linter.all false
set_option maxHeartbeats 4000000
theorem dv {d : Nat} (h : d ≤ 9) : Lib.digitVal (UInt8.ofNat (48 + d)) = some d := by
  have : ∀ d : Fin 10, Lib.digitVal (UInt8.ofNat (48 + d.val)) = some d.val := by decide
  exact this ⟨d, by omega⟩
theorem dd_forms {n : Nat} (h : n < 1000) : (n < 10 ∧ Lib.decDigits n = [UInt8.ofNat (48 + n)]) ∨ (10 ≤ n ∧ n < 100 ∧ Lib.decDigits n = [UInt8.ofNat (48 + n / 10), UInt8.ofNat (48 + n % 10)]) ∨ (100 ≤ n ∧ Lib.decDigits n = [UInt8.ofNat (48 + n / 10 / 10), UInt8.ofNat (48 + n / 10 % 10), UInt8.ofNat (48 + n % 10)]) := by
  by_cases h1 : n < 10
  · exact .inl ⟨h1, dd1 h1⟩
  · by_cases h2 : n < 100
    · exact .inr (.inl ⟨by omega, h2, by rw [dd2 h1, dd1 (by omega)]; rfl⟩)
    · exact .inr (.inr ⟨by omega, by rw [dd2 h1, dd2 (m := n / 10) (by omega), dd1 (m := n / 10 / 10) (by omega)]; rfl⟩)
theorem ne48 {d : Nat} (h1 : 1 ≤ d) (h : d ≤ 9) : (UInt8.ofNat (48 + d) == 48) = false := by
  have : ∀ d : Fin 9, (UInt8.ofNat (48 + (d.val + 1)) == 48) = false := by decide
  have := this ⟨d - 1, by omega⟩
  simpa [show d - 1 + 1 = d by omega] using this
theorem dig_dd {n : Nat} (h : n < 1000) : dig (Lib.decDigits n) = some n := by
  rcases dd_forms h with ⟨h1, e⟩ | ⟨h1, h2, e⟩ | ⟨h1, e⟩ <;> rw [e] <;> unfold dig
  · show Lib.decFrom 0 [UInt8.ofNat (48 + n)] = _
    simp only [Lib.decFrom, dv (show n ≤ 9 by omega)]; congr 1; omega
  · rw [show (decide (1 ≤ [UInt8.ofNat (48 + n / 10), UInt8.ofNat (48 + n % 10)].length) && decide ([UInt8.ofNat (48 + n / 10), UInt8.ofNat (48 + n % 10)].length ≤ 3) && !(decide (1 < [UInt8.ofNat (48 + n / 10), UInt8.ofNat (48 + n % 10)].length) && [UInt8.ofNat (48 + n / 10), UInt8.ofNat (48 + n % 10)].getD 0 0 == 48)) = true by
      rw [show [UInt8.ofNat (48 + n / 10), UInt8.ofNat (48 + n % 10)].getD 0 0 = UInt8.ofNat (48 + n / 10) from rfl, ne48 (by omega) (by omega)]; rfl, cond_true]
    simp only [Lib.decFrom, dv (show n / 10 ≤ 9 by omega), dv (show n % 10 ≤ 9 by omega)]; congr 1; omega
  · rw [show (decide (1 ≤ [UInt8.ofNat (48 + n / 10 / 10), UInt8.ofNat (48 + n / 10 % 10), UInt8.ofNat (48 + n % 10)].length) && decide ([UInt8.ofNat (48 + n / 10 / 10), UInt8.ofNat (48 + n / 10 % 10), UInt8.ofNat (48 + n % 10)].length ≤ 3) && !(decide (1 < [UInt8.ofNat (48 + n / 10 / 10), UInt8.ofNat (48 + n / 10 % 10), UInt8.ofNat (48 + n % 10)].length) && [UInt8.ofNat (48 + n / 10 / 10), UInt8.ofNat (48 + n / 10 % 10), UInt8.ofNat (48 + n % 10)].getD 0 0 == 48)) = true by
      rw [show [UInt8.ofNat (48 + n / 10 / 10), UInt8.ofNat (48 + n / 10 % 10), UInt8.ofNat (48 + n % 10)].getD 0 0 = UInt8.ofNat (48 + n / 10 / 10) from rfl, ne48 (by omega) (by omega)]; rfl, cond_true]
    simp only [Lib.decFrom, dv (show n / 10 / 10 ≤ 9 by omega), dv (show n / 10 % 10 ≤ 9 by omega), dv (show n % 10 ≤ 9 by omega)]; congr 1; omega
theorem dd_len {n : Nat} (h : n < 1000) : 1 ≤ (Lib.decDigits n).length ∧ (Lib.decDigits n).length ≤ 3 := by
  have := dig_all (dig_dd h); omega
theorem dd_no {n : Nat} {x : UInt8} (hx : x.toNat < 48 ∨ 57 < x.toNat) : x ∉ Lib.decDigits n := fun hm => by have := dd_mem n x hm; omega
/-- Words of a tape. -/
inductive Wd where
  | mi (m : Nat)
  | na (k : Nat)
  | nu (n : Nat)
  | sh (x : Nat)
  | lo (p : Nat)
  | la (a c : Nat)
  | ru
def Wd.text (b : Brd) : Wd → List UInt8
  | .mi m => 64 :: Lib.decDigits m
  | .na k => (b.stocks.getD k stk0).name
  | .nu n => Lib.decDigits n ++ [115]
  | .sh x => Lib.decDigits (x / 8) ++ [46] ++ Lib.decDigits (x % 8)
  | .lo p => 36 :: (Lib.decDigits (p / 8) ++ [46] ++ Lib.decDigits (p % 8))
  | .la a c => 76 :: (Lib.decDigits a ++ 45 :: Lib.decDigits c)
  | .ru => [33]
def Wd.ok (b : Brd) : Wd → Prop
  | .mi m => m ≤ 600
  | .na k => k < b.stocks.length
  | .nu n => 1 ≤ n ∧ n ≤ 99
  | .sh x => x < 80
  | .lo p => 1 ≤ p ∧ p ≤ 799
  | .la a c => a ≤ c ∧ c ≤ 60
  | .ru => True
def Wd.can : Wd → Wrk → Prop
  | .mi m, w => w.number ≤ 0 ∧ w.minute ≤ m
  | .na _, w => w.number ≤ 0
  | .nu _, w => w.number ≤ 0
  | .sh _, w => 0 ≤ w.stock ∧ w.out.length ≠ 8
  | .lo _, w => 0 ≤ w.stock ∧ w.out.length ≠ 8
  | .la _ _, w => w.number ≤ 0
  | .ru, w => w.number ≤ 0 ∧ w.rush = false
def Wd.run (b : Brd) : Wd → Wrk → Wrk
  | .mi m, w => { w with minute := m }
  | .na k, w => { w with stock := k }
  | .nu n, w => { w with number := n }
  | .sh x, w => { w with number := 0, out := w.out ++ [⟨w.stock, (saleN w b).1, (saleN w b).2, x, false, w.minute, w.llo, w.lhi⟩] }
  | .lo p, w => { w with number := 0, out := w.out ++ [⟨w.stock, (saleN w b).1, (saleN w b).2, p, true, w.minute, w.llo, w.lhi⟩] }
  | .la a c, w => { w with llo := a, lhi := c }
  | .ru, w => { w with rush := true }
def Wd.tok (b : Brd) : Wd → Tok
  | .mi m => ⟨5, m, 0, (Wd.mi m).text b⟩
  | .na k => ⟨1, 0, 0, (Wd.na k).text b⟩
  | .nu n => ⟨2, n, 0, (Wd.nu n).text b⟩
  | .sh x => ⟨3, x, 0, (Wd.sh x).text b⟩
  | .lo p => ⟨4, p, 0, (Wd.lo p).text b⟩
  | .la a c => ⟨6, a, c, (Wd.la a c).text b⟩
  | .ru => ⟨7, 0, 0, (Wd.ru).text b⟩
theorem name_ok {b : Brd} (v : BrdOK b) {k : Nat} (hk : k < b.stocks.length) : namedB (b.stocks.getD k stk0).name = true := by
  obtain ⟨s, hs⟩ := ex_get hk
  rw [getD_of hs]
  exact (stk_ok v (List.mem_of_getElem? hs)).2.2.2
theorem nmd_all {s : List UInt8} (h : namedB s = true) : 1 ≤ s.length ∧ s.length ≤ 3 ∧ ∀ x ∈ s, 65 ≤ x.toNat ∧ x.toNat ≤ 90 := by
  unfold namedB at h
  rw [Bool.and_eq_true] at h
  have h1 := within_iff.1 h.1
  refine ⟨by omega, by omega, fun x hx => ?_⟩
  have := List.all_eq_true.1 h.2 x hx
  unfold letterB at this
  simp only [Bool.and_eq_true, decide_eq_true_eq] at this
  omega
theorem not_named {x : UInt8} {r : List UInt8} (h : x.toNat < 65 ∨ 90 < x.toNat) : namedB (x :: r) = false := by
  cases hn : namedB (x :: r) with
  | false => rfl
  | true => have := (nmd_all hn).2.2 x List.mem_cons_self; omega
theorem not_named_mem {x : UInt8} {r : List UInt8} (hx : x ∈ r) (h : x.toNat < 65 ∨ 90 < x.toNat) : namedB r = false := by
  cases hn : namedB r with
  | false => rfl
  | true => have := (nmd_all hn).2.2 x hx; omega
theorem dd_cons (n : Nat) (h : n < 1000) : ∃ x r, Lib.decDigits n = x :: r ∧ 48 ≤ x.toNat ∧ x.toNat ≤ 57 := by
  have hl := (dd_len h).1
  cases e : Lib.decDigits n with
  | nil => rw [e] at hl; simp at hl
  | cons x r => exact ⟨x, r, rfl, dd_mem n x (by rw [e]; exact List.mem_cons_self)⟩
theorem point_dd {p : Nat} (h : p < 8000) : pointD (Lib.decDigits (p / 8) ++ [46] ++ Lib.decDigits (p % 8)) = (((p / 8 : Nat) : Int), ((p % 8 : Nat) : Int), true) := by
  rw [dd1 (show p % 8 < 10 by omega), List.append_assoc]
  have := point_of (c := UInt8.ofNat (48 + p % 8)) (dig_dd (show p / 8 < 1000 by omega)) (by rw [tn (by omega)]; omega)
  rw [tn (by omega), show 48 + p % 8 - 48 = p % 8 by omega] at this
  exact this
theorem tok_ne {s : List UInt8} {x y : UInt8} {r : List UInt8} (h : s = x :: r) (hx : x ≠ y) : (s == [y]) = false := by
  subst h
  cases e : (x :: r == [y]) with
  | false => rfl
  | true => simp only [beq_iff_eq, List.cons.injEq] at e; exact (hx e.1).elim
theorem late_dd {a c : Nat} (h1 : a ≤ c) (h2 : c ≤ 60) : lateL (76 :: (Lib.decDigits a ++ 45 :: Lib.decDigits c)) = some (a, c) := by
  rw [late_eq, cut_hit (dd_no (by decide))]
  dsimp only
  rw [digI_some (dig_dd (show a < 1000 by omega)), digI_some (dig_dd (show c < 1000 by omega))]
  rw [show spansB (a : Nat) (c : Nat) 0 60 = true by unfold spansB; simp only [Bool.and_eq_true, decide_eq_true_eq]; omega]
  simp only [Bool.and_true, cond_true, Int.toNat_natCast]
theorem digit_bytes {x y : UInt8} (h : 48 ≤ x.toNat ∧ x.toNat ≤ 57) (hy : y.toNat < 48 ∨ 57 < y.toNat) : x ≠ y := fun e => by subst e; omega
theorem take_last {a : List UInt8} {x : UInt8} : (a ++ [x]).take ((a ++ [x]).length - 1) = a := by simp
theorem get_last {a : List UInt8} {x : UInt8} : (a ++ [x]).getD ((a ++ [x]).length - 1) 0 = x := by simp
theorem point_no {s : List UInt8} (h : (46 : UInt8) ∉ s) : (pointD s).2.2 = false := by
  cases hp : (pointD s).2.2 with
  | false => rfl
  | true =>
    obtain ⟨a, c, d, rfl, _⟩ := point_form hp
    exact (h (by simp)).elim
theorem tok_of {b : Brd} (v : BrdOK b) {wd : Wd} (h : wd.ok b) : refTok (wd.text b) = wd.tok b := by
  cases wd with
  | mi m =>
    have h : m ≤ 600 := h
    obtain ⟨x, r, e, hx⟩ := dd_cons m (by omega)
    show refTok (64 :: Lib.decDigits m) = ⟨5, m, 0, 64 :: Lib.decDigits m⟩
    unfold refTok
    rw [tok_ne (y := 33) rfl (by decide), tok_ne (y := 63) rfl (by decide), not_named (by decide)]
    have h3 : (pointD (64 :: Lib.decDigits m)).2.2 = false := point_no fun hm => by
      rcases List.mem_cons.1 hm with e | hm
      · revert e; decide
      · exact dd_no (by decide) hm
    rw [h3, num_head (by rw [e]; simp) (by decide)]
    simp only [List.drop_succ_cons, List.drop_zero, List.getD_cons_zero, cond_false, Option.isSome_none, Bool.false_and]
    rw [show decide (((64 :: Lib.decDigits m).length : Int) < 2) = false by rw [e]; simp only [decide_eq_false_iff_not, List.length_cons]; omega]
    rw [show ((64 : UInt8) == 36) = false from rfl, show ((64 : UInt8) == 64) = true from rfl, dig_dd (by omega)]
    simp only [Bool.and_false, Bool.false_and, cond_false, Option.isSome_some, Bool.true_and, Option.getD_some]
    rw [decide_eq_true (by omega), cond_true]
  | na k =>
    have hn := name_ok v (show k < b.stocks.length from h)
    have ha := nmd_all hn
    show refTok (b.stocks.getD k stk0).name = ⟨1, 0, 0, (b.stocks.getD k stk0).name⟩
    generalize (b.stocks.getD k stk0).name = s at *
    unfold refTok
    cases s with
    | nil => simp at ha
    | cons x r =>
      have hx := ha.2.2 x List.mem_cons_self
      rw [tok_ne (y := 33) rfl (fun e => by subst e; revert hx; decide), tok_ne (y := 63) rfl (fun e => by subst e; revert hx; decide), hn]
      simp only [cond_false, cond_true]
  | nu n =>
    obtain ⟨h1, h2⟩ : 1 ≤ n ∧ n ≤ 99 := h
    obtain ⟨x, r, e, hx⟩ := dd_cons n (by omega)
    show refTok (Lib.decDigits n ++ [115]) = ⟨2, n, 0, Lib.decDigits n ++ [115]⟩
    have e2 : Lib.decDigits n ++ [115] = x :: (r ++ [115]) := by rw [e]; rfl
    unfold refTok
    rw [tok_ne (y := 33) e2 (digit_bytes hx (by decide)), tok_ne (y := 63) e2 (digit_bytes hx (by decide)), not_named_mem (x := 115) (by simp) (by decide), take_last, get_last, dig_dd (by omega)]
    rw [show decide ((((Lib.decDigits n ++ [115] : List UInt8).length : Nat) : Int) < 2) = false by rw [e]; simp only [decide_eq_false_iff_not, List.length_append, List.length_cons]; omega]
    simp only [cond_false, Option.isSome_some, Bool.true_and, Option.getD_some]
    rw [show ((115 : UInt8) == 115) = true from rfl, within_iff.2 (show (1 : Int) ≤ (n : Nat) ∧ ((n : Nat) : Int) ≤ 99 by omega)]
    rfl
  | sh p =>
    have h : p < 80 := h
    show refTok (Lib.decDigits (p / 8) ++ [46] ++ Lib.decDigits (p % 8)) = ⟨3, p, 0, Lib.decDigits (p / 8) ++ [46] ++ Lib.decDigits (p % 8)⟩
    have hp := point_dd (p := p) (by omega)
    rw [dd1 (show p / 8 < 10 by omega), dd1 (show p % 8 < 10 by omega)] at hp ⊢
    simp only [List.cons_append, List.nil_append] at hp ⊢
    have hx : 48 ≤ (UInt8.ofNat (48 + p / 8)).toNat ∧ (UInt8.ofNat (48 + p / 8)).toNat ≤ 57 := by rw [tn (by omega)]; omega
    unfold refTok
    rw [tok_ne (y := 33) rfl (digit_bytes hx (by decide)), tok_ne (y := 63) rfl (digit_bytes hx (by decide)), not_named (by omega), hp]
    rw [show ([UInt8.ofNat (48 + p / 8), 46, UInt8.ofNat (48 + p % 8)] : List UInt8).take ([UInt8.ofNat (48 + p / 8), 46, UInt8.ofNat (48 + p % 8)].length - 1) = [UInt8.ofNat (48 + p / 8), 46] from rfl, dig_bad (x := 46) (by simp) (by decide)]
    simp only [Option.isSome_none, Bool.false_and, cond_false, Bool.true_and]
    rw [show decide ((([UInt8.ofNat (48 + p / 8), 46, UInt8.ofNat (48 + p % 8)] : List UInt8).length : Int) < 2) = false from rfl, show ((([UInt8.ofNat (48 + p / 8), 46, UInt8.ofNat (48 + p % 8)] : List UInt8).length : Int) == 3) = true from rfl]
    simp only [cond_false, cond_true]
    congr 1
    omega
  | lo p =>
    obtain ⟨h1, h2⟩ : 1 ≤ p ∧ p ≤ 799 := h
    show refTok (36 :: (Lib.decDigits (p / 8) ++ [46] ++ Lib.decDigits (p % 8))) = ⟨4, p, 0, 36 :: (Lib.decDigits (p / 8) ++ [46] ++ Lib.decDigits (p % 8))⟩
    have hp := point_dd (p := p) (by omega)
    unfold refTok
    rw [tok_ne (y := 33) rfl (by decide), tok_ne (y := 63) rfl (by decide), not_named (by decide)]
    have h3 : (pointD (36 :: (Lib.decDigits (p / 8) ++ [46] ++ Lib.decDigits (p % 8)))).2.2 = false := by
      cases h : (pointD (36 :: (Lib.decDigits (p / 8) ++ [46] ++ Lib.decDigits (p % 8)))).2.2 with
      | false => rfl
      | true => have := point_head h; revert this; decide
    rw [h3, num_head (by simp; omega) (by decide)]
    simp only [List.drop_succ_cons, List.drop_zero, List.getD_cons_zero, cond_false, Option.isSome_none, Bool.false_and]
    rw [show decide (((36 :: (Lib.decDigits (p / 8) ++ [46] ++ Lib.decDigits (p % 8))).length : Int) < 2) = false by simp only [decide_eq_false_iff_not, List.length_cons, List.length_append, List.length_nil]; omega]
    rw [hp]
    simp only [cond_false, Bool.true_and]
    have e : 8 * ((p / 8 : Nat) : Int) + ((p % 8 : Nat) : Int) = (p : Nat) := by omega
    rw [e, show ((36 : UInt8) == 36) = true from rfl, within_iff.2 (show (1 : Int) ≤ (p : Nat) ∧ ((p : Nat) : Int) ≤ 799 by omega)]
    rfl
  | la a c =>
    obtain ⟨h1, h2⟩ : a ≤ c ∧ c ≤ 60 := h
    show refTok (76 :: (Lib.decDigits a ++ 45 :: Lib.decDigits c)) = ⟨6, a, c, 76 :: (Lib.decDigits a ++ 45 :: Lib.decDigits c)⟩
    unfold refTok
    rw [tok_ne (y := 33) rfl (by decide), tok_ne (y := 63) rfl (by decide), not_named_mem (x := 45) (by simp) (by decide)]
    have h3 : (pointD (76 :: (Lib.decDigits a ++ 45 :: Lib.decDigits c))).2.2 = false := point_no fun hm => by
      rcases List.mem_cons.1 hm with e | hm
      · revert e; decide
      · rcases List.mem_append.1 hm with hm | hm
        · exact dd_no (by decide) hm
        · rcases List.mem_cons.1 hm with e | hm
          · revert e; decide
          · exact dd_no (by decide) hm
    have h4 : (pointD (Lib.decDigits a ++ 45 :: Lib.decDigits c)).2.2 = false := point_no fun hm => by
      rcases List.mem_append.1 hm with hm | hm
      · exact dd_no (by decide) hm
      · rcases List.mem_cons.1 hm with e | hm
        · revert e; decide
        · exact dd_no (by decide) hm
    rw [h3, num_head (by simp; omega) (by decide)]
    simp only [List.drop_succ_cons, List.drop_zero, List.getD_cons_zero, cond_false, Option.isSome_none, Bool.false_and]
    rw [h4, dig_bad (x := 45) (by simp) (by decide), late_dd h1 h2]
    rw [show decide (((76 :: (Lib.decDigits a ++ 45 :: Lib.decDigits c)).length : Int) < 2) = false by simp only [decide_eq_false_iff_not, List.length_cons, List.length_append]; omega]
    simp only [Option.isSome_none, Bool.false_and, cond_false]
  | ru => rfl
theorem nm_of {b : Brd} (v : BrdOK b) {k : Nat} (hk : k < b.stocks.length) : nmI b (b.stocks.getD k stk0).name = k := by
  obtain ⟨s, hs⟩ := ex_get hk
  rw [getD_of hs, nm_idx v]
  refine idxOf_hit hs ?_ (by simp)
  rw [List.all_eq_true]
  intro t ht
  obtain ⟨j, hj⟩ := List.getElem?_of_mem ht
  rw [List.getElem?_take] at hj
  split at hj
  · rename_i hjk
    cases hb : t.name == s.name with
    | false => rfl
    | true =>
      have h1 := List.all_eq_true.1 v.al t (List.mem_of_getElem? hj)
      simp only [stockB, Bool.and_eq_true, beq_iff_eq] at h1
      have e1 : (b.stocks.take (j + 1)).countP (eqN t) = (b.stocks.take j).countP (eqN t) + 1 := by rw [countP_take hj, if_pos (by simp [eqN])]
      have e2 : (b.stocks.take (k + 1)).countP (eqN t) = (b.stocks.take k).countP (eqN t) + 1 := by rw [countP_take hs, if_pos (by rw [beq_iff_eq] at hb; simp [eqN, hb])]
      have e3 : (b.stocks.take (j + 1)).countP (eqN t) ≤ (b.stocks.take k).countP (eqN t) := by
        rw [show b.stocks.take (j + 1) = (b.stocks.take k).take (j + 1) by rw [List.take_take, Nat.min_eq_left (by omega)]]
        exact (List.take_sublist _ _).countP_le
      have e4 : (b.stocks.take (k + 1)).countP (eqN t) ≤ b.stocks.countP (eqN t) := (List.take_sublist _ _).countP_le
      omega
  · cases hj
theorem wd_step {b : Brd} (v : BrdOK b) {wd : Wd} {w : Wrk} (h : wd.ok b) (hc : wd.can w) : refE w (refTok (wd.text b)) (nmI b (wd.text b)) = 0 ∧ refW b w (refTok (wd.text b)) (nmI b (wd.text b)) = wd.run b w := by
  rw [tok_of v h]
  cases wd with
  | mi m =>
    obtain ⟨c1, c2⟩ : w.number ≤ 0 ∧ w.minute ≤ m := hc
    refine ⟨?_, rfl⟩
    show (bif (false || decide (0 < w.number) || decide ((m : Int) < w.minute) || false || false) then (8 : Int) else 0) = 0
    rw [decide_eq_false (by omega), decide_eq_false (by omega)]; rfl
  | na k =>
    have c1 : w.number ≤ 0 := hc
    have hn : nmI b ((Wd.na k).text b) = k := nm_of v h
    rw [hn]
    refine ⟨?_, rfl⟩
    show (bif decide ((k : Int) < 0) then (5 : Int) else bif (false || decide (0 < w.number) || false || false || false) then 8 else 0) = 0
    rw [decide_eq_false (by omega), decide_eq_false (by omega)]; rfl
  | nu n =>
    have c1 : w.number ≤ 0 := hc
    refine ⟨?_, rfl⟩
    show (bif (false || decide (0 < w.number) || false || false || false) then (8 : Int) else 0) = 0
    rw [decide_eq_false (by omega)]; rfl
  | sh x =>
    obtain ⟨c1, c2⟩ : 0 ≤ w.stock ∧ w.out.length ≠ 8 := hc
    refine ⟨?_, rfl⟩
    show (bif (decide (w.stock < 0) || false || false || false || false) then (8 : Int) else bif ((w.out.length : Int) == 8) then 3 else 0) = 0
    rw [decide_eq_false (by omega), show ((w.out.length : Int) == 8) = false by simp; omega]; rfl
  | lo x =>
    obtain ⟨c1, c2⟩ : 0 ≤ w.stock ∧ w.out.length ≠ 8 := hc
    refine ⟨?_, rfl⟩
    show (bif (decide (w.stock < 0) || false || false || false || false) then (8 : Int) else bif ((w.out.length : Int) == 8) then 3 else 0) = 0
    rw [decide_eq_false (by omega), show ((w.out.length : Int) == 8) = false by simp; omega]; rfl
  | la a c =>
    have c1 : w.number ≤ 0 := hc
    refine ⟨?_, rfl⟩
    show (bif (false || decide (0 < w.number) || false || false || false) then (8 : Int) else 0) = 0
    rw [decide_eq_false (by omega)]; rfl
  | ru =>
    obtain ⟨c1, c2⟩ : w.number ≤ 0 ∧ w.rush = false := hc
    refine ⟨?_, rfl⟩
    show (bif (false || decide (0 < w.number) || false || w.rush || false) then (8 : Int) else 0) = 0
    rw [decide_eq_false (by omega), c2]; rfl
/-- Words that can be read from a state on. -/
def CanAll (b : Brd) : List Wd → Wrk → Prop
  | [], _ => True
  | x :: r, w => x.ok b ∧ x.can w ∧ CanAll b r (x.run b w)
def runAll (b : Brd) : List Wd → Wrk → Wrk
  | [], w => w
  | x :: r, w => runAll b r (x.run b w)
theorem runAll_app {b : Brd} {r : List Wd} : ∀ {l : List Wd} {w : Wrk}, runAll b (l ++ r) w = runAll b r (runAll b l w)
  | [], _ => rfl
  | x :: l, w => runAll_app (l := l)
theorem CanAll.app {b : Brd} {r : List Wd} : ∀ {l : List Wd} {w : Wrk}, CanAll b l w → CanAll b r (runAll b l w) → CanAll b (l ++ r) w
  | [], _, _, h => h
  | x :: l, w, ⟨h1, h2, h3⟩, h => ⟨h1, h2, CanAll.app h3 h⟩
theorem go_words {b : Brd} (v : BrdOK b) : ∀ {l : List Wd} {w : Wrk}, CanAll b l w → refGo b (l.map (Wd.text b)) w = (0, runAll b l w)
  | [], _, _ => rfl
  | x :: l, w, ⟨h1, h2, h3⟩ => by
    obtain ⟨e1, e2⟩ := wd_step v h1 h2
    rw [List.map_cons, refGo, e1, e2]
    show refGo b (l.map (Wd.text b)) (x.run b w) = _
    rw [go_words v h3]; rfl
theorem word_no {b : Brd} (v : BrdOK b) {wd : Wd} (h : wd.ok b) : (32 : UInt8) ∉ wd.text b ∧ wd.text b ≠ [] := by
  have hd : ∀ n : Nat, (32 : UInt8) ∉ Lib.decDigits n := fun n => dd_no (by decide)
  cases wd with
  | mi m => exact ⟨by simp [Wd.text, hd], by simp [Wd.text]⟩
  | na k =>
    have ha := nmd_all (name_ok v (show k < b.stocks.length from h))
    refine ⟨fun hm => ?_, fun e => ?_⟩
    · have := ha.2.2 32 hm; revert this; decide
    · have e : (b.stocks.getD k stk0).name = [] := e
      rw [e] at ha; simp at ha
  | nu n => exact ⟨by simp [Wd.text, hd], by simp [Wd.text]⟩
  | sh n => exact ⟨by simp [Wd.text, hd], by simp [Wd.text]⟩
  | lo n => exact ⟨by simp [Wd.text, hd], by simp [Wd.text]⟩
  | la a c => exact ⟨by simp [Wd.text, hd], by simp [Wd.text]⟩
  | ru => exact ⟨by simp [Wd.text], by simp [Wd.text]⟩
/-- The words with a space ahead of each. -/
def sps : List (List UInt8) → List UInt8
  | [] => []
  | x :: r => 32 :: (x ++ sps r)
theorem sps_app : ∀ {a c : List (List UInt8)}, sps (a ++ c) = sps a ++ sps c
  | [], _ => rfl
  | x :: a, c => by show 32 :: (x ++ sps (a ++ c)) = 32 :: (x ++ sps a) ++ sps c; rw [sps_app]; simp
theorem split_sps : ∀ {l : List (List UInt8)} {cur : List UInt8}, (∀ x ∈ l, (32 : UInt8) ∉ x) → splitGo (sps l) cur = cur :: l
  | [], cur, _ => rfl
  | x :: l, cur, h => by
    show (bif (32 : UInt8) == 32 then cur :: splitGo (x ++ sps l) [] else _) = _
    rw [show ((32 : UInt8) == 32) = true from rfl, cond_true, splitGo_app (h x List.mem_cons_self), List.nil_append, split_sps fun y hy => h y (List.mem_cons_of_mem _ hy)]
theorem toks_sps {x : List UInt8} {l : List (List UInt8)} (hx : (32 : UInt8) ∉ x) (hn : x ≠ [] ∨ l ≠ []) (h : ∀ y ∈ l, (32 : UInt8) ∉ y) : refToks (x ++ sps l) = x :: l := by
  unfold refToks
  have e : (x ++ sps l == []) = false := by
    rcases hn with hn | hn
    · cases x with
      | nil => exact (hn rfl).elim
      | cons a x => rfl
    · cases l with
      | nil => exact (hn rfl).elim
      | cons a l => simp [sps]
  rw [e, cond_false, splitGo_app hx, List.nil_append, split_sps h]
/-- What is read of words. -/
theorem read_words {b : Brd} (h : checkT b = 0) {x : Wd} {l : List Wd} (hc : CanAll b (x :: l) wrk0) (hlen : (x.text b ++ sps (l.map (Wd.text b))).length ≤ 160) : readI b (x.text b ++ sps (l.map (Wd.text b))) = bif decide (0 < (runAll b (x :: l) wrk0).number) then ([], 8) else ((runAll b (x :: l) wrk0).out, 0) := by
  have v := valid_of h
  have hok : ∀ (l : List Wd) (w : Wrk), CanAll b l w → ∀ y ∈ l, y.ok b := by
    intro l
    induction l with
    | nil => intro w _ y hy; cases hy
    | cons z l ih =>
      rintro w ⟨h1, h2, h3⟩ y hy
      rcases List.mem_cons.1 hy with rfl | hy
      · exact h1
      · exact ih _ h3 y hy
  have hall := hok _ _ hc
  rw [← ref_read h]
  unfold refReadI
  rw [decide_eq_false (by omega), cond_false, toks_sps (word_no v (hall x List.mem_cons_self)).1 (.inl (word_no v (hall x List.mem_cons_self)).2) (fun y hy => ?_)]
  · have := go_words v hc
    rw [List.map_cons] at this
    rw [this]
    rfl
  · obtain ⟨z, hz, rfl⟩ := List.mem_map.1 hy
    exact (word_no v (hall z (List.mem_cons_of_mem _ hz))).1
end Go.Proofs.YtplpcamcnppibaaGreatDoor
namespace Go.Proofs.YtplpcamcnppibaaGreatDoor
open Go.RowKit
set_option linter.all false
set_option maxHeartbeats 4000000
def optW (c : Bool) (x : Wd) : List Wd := bif c then [x] else []
/-- The words that sales need from a state on. -/
def need : List Sal → Int → Int → Int → List Wd
  | [], _, _, _ => []
  | s :: r, m, st, n => optW (s.minute != m) (.mi s.minute.toNat) ++ (optW (s.stock != st) (.na s.stock.toNat) ++ (optW (decide (1 < s.number) && decide (n ≤ 0)) (.nu s.number.toNat) ++ (.sh (s.price.toNat % 80) :: need r s.minute s.stock 0)))
def okAll (b : Brd) : List Sal → Int → Bool
  | [], _ => true
  | s :: r, bm => okSal b s bm && okAll b r s.minute
theorem okSal_iff {b : Brd} {s : Sal} {bm : Int} : okSal b s bm = true ↔ (0 ≤ s.stock ∧ s.stock ≤ (b.stocks.length : Int) - 1) ∧ (1 ≤ s.number ∧ s.number ≤ 99) ∧ (1 ≤ s.price ∧ s.price ≤ 799) ∧ bm ≤ s.minute ∧ s.minute ≤ 600 := by
  unfold okSal
  simp only [Bool.and_eq_true, within_iff]
  constructor
  · rintro ⟨⟨⟨h1, h2⟩, h3⟩, h4⟩; exact ⟨h1, h2, h3, h4⟩
  · rintro ⟨h1, h2, h3, h4⟩; exact ⟨⟨⟨h1, h2⟩, h3⟩, h4⟩
theorem map_optW {b : Brd} {c : Bool} {x : Wd} : (optW c x).map (Wd.text b) = bif c then [x.text b] else [] := by cases c <;> rfl
theorem need_words {b : Brd} {s : Sal} {r : List Sal} {bf : Sal} (h : okSal b s bf.minute = true) (h0 : 0 ≤ bf.minute) : (need (s :: r) bf.minute bf.stock 0).map (Wd.text b) = wordsOf b s bf ++ (need r s.minute s.stock 0).map (Wd.text b) := by
  obtain ⟨h1, h2, h3, h4⟩ := okSal_iff.1 h
  obtain ⟨k, hk⟩ : ∃ k : Nat, s.stock = k := ⟨s.stock.toNat, by omega⟩
  obtain ⟨m, hm⟩ : ∃ m : Nat, s.minute = m := ⟨s.minute.toNat, by omega⟩
  obtain ⟨n, hn⟩ : ∃ n : Nat, s.number = n := ⟨s.number.toNat, by omega⟩
  have e1 : word1 s bf = (optW (s.minute != bf.minute) (.mi s.minute.toNat)).map (Wd.text b) := by
    rw [map_optW]; unfold word1; rw [hm, Lib.itoa_nonneg]; rfl
  have e2 : word2 b s bf = (optW (s.stock != bf.stock) (.na s.stock.toNat)).map (Wd.text b) := by
    rw [map_optW]; rfl
  have e3 : word3 s = (optW (decide (1 < s.number) && decide ((0 : Int) ≤ 0)) (.nu s.number.toNat)).map (Wd.text b) := by
    rw [map_optW]; unfold word3; rw [hn, Lib.itoa_nonneg]
    rw [show decide ((0 : Int) ≤ 0) = true from rfl, Bool.and_true]; rfl
  have e4 : word4 s = [(Wd.sh (s.price.toNat % 80)).text b] := by
    unfold word4; rw [Lib.itoa_nonneg, Lib.itoa_nonneg]; rfl
  rw [need]
  unfold wordsOf
  rw [e1, e2, e3, e4]
  simp only [List.map_append, List.map_cons, List.append_assoc, List.cons_append, List.nil_append]
theorem writeGo_eq {b : Brd} : ∀ {l : List Sal} {bf : Sal} {ws : List (List UInt8)}, 0 ≤ bf.minute → writeGo b l bf ws = bif okAll b l bf.minute then some (ws ++ (need l bf.minute bf.stock 0).map (Wd.text b)) else none
  | [], bf, ws, _ => by simp [writeGo, okAll, need]
  | s :: r, bf, ws, h => by
    unfold writeGo okAll
    cases ho : okSal b s bf.minute
    · rfl
    · have h4 := (okSal_iff.1 ho).2.2.2
      rw [cond_true, Bool.true_and, writeGo_eq (by omega), need_words ho h]
      simp only [List.append_assoc]
theorem join_sps : ∀ {ws : List (List UInt8)}, Lib.join ws [32] = (sps ws).drop 1
  | [] => rfl
  | x :: r => by
    rw [Lib.join_cons]
    show x ++ Lib.joinTail [32] r = x ++ sps r
    congr 1
    unfold Lib.joinTail
    induction r with
    | nil => rfl
    | cons y r ih => simp only [List.map_cons, List.flatten_cons, sps, ih]; simp
/-- The words can be read, and say the sales. -/
theorem need_run {b : Brd} (v : BrdOK b) : ∀ {l : List Sal} {w : Wrk}, okAll b l w.minute = true → 0 ≤ w.minute → w.number ≤ 0 → w.out.length + l.length ≤ 8 → w.rush = false → CanAll b (need l w.minute w.stock 0) w ∧ (runAll b (need l w.minute w.stock 0) w).out = w.out ++ l.map (fun s => (⟨s.stock, s.number, s.number, ((s.price.toNat % 80 : Nat) : Int), false, s.minute, w.llo, w.lhi⟩ : Prt)) ∧ (runAll b (need l w.minute w.stock 0) w).number ≤ 0
  | [], w, _, _, hn, _, _ => ⟨trivial, by simp [need, runAll], hn⟩
  | s :: r, w, hok, h0, hn, hl, hr => by
    unfold okAll at hok
    rw [Bool.and_eq_true] at hok
    obtain ⟨h1, h2, h3, h4⟩ := okSal_iff.1 hok.1
    simp only [List.length_cons] at hl
    have hopt : ∀ (c : Bool) (x : Wd) (w : Wrk), (c = true → x.ok b ∧ x.can w) → CanAll b (optW c x) w := fun c x w h => by
      cases c
      · trivial
      · exact ⟨(h rfl).1, (h rfl).2, trivial⟩
    -- the state after the minute and the name
    have s1 : runAll b (optW (s.minute != w.minute) (.mi s.minute.toNat)) w = { w with minute := s.minute } := by
      by_cases e : s.minute = w.minute
      · rw [show (s.minute != w.minute) = false by simpa using e, e]; rfl
      · rw [show (s.minute != w.minute) = true by simpa using e]
        show ({ w with minute := ((s.minute.toNat : Nat) : Int) } : Wrk) = _
        rw [show ((s.minute.toNat : Nat) : Int) = s.minute by omega]
    have s2 : runAll b (optW (s.stock != w.stock) (.na s.stock.toNat)) { w with minute := s.minute } = { w with minute := s.minute, stock := s.stock } := by
      by_cases e : s.stock = w.stock
      · rw [show (s.stock != w.stock) = false by simpa using e, e]; rfl
      · rw [show (s.stock != w.stock) = true by simpa using e]
        show ({ w with minute := s.minute, stock := ((s.stock.toNat : Nat) : Int) } : Wrk) = _
        rw [show ((s.stock.toNat : Nat) : Int) = s.stock by omega]
    obtain ⟨wn, s3, hwn⟩ : ∃ wn : Int, runAll b (optW (decide (1 < s.number) && decide ((0 : Int) ≤ 0)) (.nu s.number.toNat)) { w with minute := s.minute, stock := s.stock } = { w with minute := s.minute, stock := s.stock, number := wn } ∧ saleN { w with minute := s.minute, stock := s.stock, number := wn } b = (s.number, s.number) := by
      by_cases e : 1 < s.number
      · refine ⟨s.number, ?_, ?_⟩
        · rw [decide_eq_true e]
          show ({ w with minute := s.minute, stock := s.stock, number := ((s.number.toNat : Nat) : Int) } : Wrk) = _
          rw [show ((s.number.toNat : Nat) : Int) = s.number by omega]
        · unfold saleN; rw [decide_eq_true (by dsimp only; omega)]; rfl
      · refine ⟨w.number, ?_, ?_⟩
        · rw [decide_eq_false e]; rfl
        · unfold saleN
          rw [decide_eq_false (by dsimp only; omega), cond_false, show ({ w with minute := s.minute, stock := s.stock, number := w.number } : Wrk).rush = false from hr, cond_false, show s.number = 1 by omega]
    have ih := need_run v (l := r) (w := { w with minute := s.minute, stock := s.stock, number := 0, out := w.out ++ [⟨s.stock, s.number, s.number, ((s.price.toNat % 80 : Nat) : Int), false, s.minute, w.llo, w.lhi⟩] }) hok.2 (by dsimp only; omega) (by dsimp only; omega) (by simp only [List.length_append, List.length_cons, List.length_nil]; omega) hr
    dsimp only at ih
    have s4 : (Wd.sh (s.price.toNat % 80)).run b { w with minute := s.minute, stock := s.stock, number := wn } = { w with minute := s.minute, stock := s.stock, number := 0, out := w.out ++ [⟨s.stock, s.number, s.number, ((s.price.toNat % 80 : Nat) : Int), false, s.minute, w.llo, w.lhi⟩] } := by
      show ({ stock := s.stock, minute := s.minute, number := 0, llo := w.llo, lhi := w.lhi, rush := w.rush, out := w.out ++ [⟨s.stock, (saleN { w with minute := s.minute, stock := s.stock, number := wn } b).1, (saleN { w with minute := s.minute, stock := s.stock, number := wn } b).2, ((s.price.toNat % 80 : Nat) : Int), false, s.minute, w.llo, w.lhi⟩] } : Wrk) = _
      rw [hwn]
    unfold need
    refine ⟨?_, ?_, ?_⟩
    · refine CanAll.app (hopt _ _ _ fun hc => ⟨show s.minute.toNat ≤ 600 by omega, show w.number ≤ 0 ∧ w.minute ≤ ((s.minute.toNat : Nat) : Int) by omega⟩) ?_
      rw [s1]
      refine CanAll.app (hopt _ _ _ fun hc => ⟨show s.stock.toNat < b.stocks.length by omega, show w.number ≤ 0 from hn⟩) ?_
      rw [s2]
      refine CanAll.app (hopt _ _ _ fun hc => ⟨show 1 ≤ s.number.toNat ∧ s.number.toNat ≤ 99 by omega, show w.number ≤ 0 from hn⟩) ?_
      rw [s3]
      refine ⟨show s.price.toNat % 80 < 80 by omega, show 0 ≤ s.stock ∧ w.out.length ≠ 8 by omega, ?_⟩
      rw [s4]; exact ih.1
    · rw [runAll_app, s1, runAll_app, s2, runAll_app, s3, runAll, s4, ih.2.1]
      simp
    · rw [runAll_app, s1, runAll_app, s2, runAll_app, s3, runAll, s4]
      exact ih.2.2
/-- A sale that is read says a sale. -/
def sayP (p : Prt) (s : Sal) : Bool := p.stock == s.stock && (p.nlo == s.number && p.nhi == s.number) && p.minute == s.minute && refFits p 0 s.price 0
def sayL : List Prt → List Sal → Bool
  | [], [] => true
  | p :: ps, s :: ss => sayP p s && sayL ps ss
  | _, _ => false
def saysB (b : Brd) (t : List UInt8) (l : List Sal) : Bool := (readI b t).2 == 0 && sayL (readI b t).1 l
theorem sayL_len : ∀ {ps : List Prt} {l : List Sal}, sayL ps l = true → ps.length = l.length
  | [], [], _ => rfl
  | p :: ps, s :: l, h => by
    unfold sayL at h
    rw [Bool.and_eq_true] at h
    simp [sayL_len h.2]
  | [], _ :: _, h => by cases h
  | _ :: _, [], h => by cases h
theorem sayP_iff {p : Prt} {s : Sal} : sayP p s = true ↔ p.stock = s.stock ∧ (p.nlo = s.number ∧ p.nhi = s.number) ∧ p.minute = s.minute ∧ refFits p 0 s.price 0 = true := by
  unfold sayP
  simp only [Bool.and_eq_true, beq_iff_eq]
  constructor
  · rintro ⟨⟨⟨h1, h2⟩, h3⟩, h4⟩; exact ⟨h1, h2, h3, h4⟩
  · rintro ⟨h1, h2, h3, h4⟩; exact ⟨⟨⟨h1, h2⟩, h3⟩, h4⟩
theorem tmod80 {x : Int} (h : 0 ≤ x) : x.tmod 80 = ((x.toNat % 80 : Nat) : Int) := by
  obtain ⟨n, rfl⟩ : ∃ n : Nat, x = n := ⟨x.toNat, by omega⟩
  rw [Int.toNat_natCast]; rfl
theorem say_map {b : Brd} {a c : Int} : ∀ {l : List Sal} {bm : Int}, okAll b l bm = true → sayL (l.map fun s => (⟨s.stock, s.number, s.number, ((s.price.toNat % 80 : Nat) : Int), false, s.minute, a, c⟩ : Prt)) l = true
  | [], _, _ => rfl
  | s :: r, bm, h => by
    unfold okAll at h
    rw [Bool.and_eq_true] at h
    obtain ⟨h1, h2, h3, h4⟩ := okSal_iff.1 h.1
    show (sayP _ s && sayL _ r) = true
    rw [Bool.and_eq_true]
    refine ⟨sayP_iff.2 ⟨rfl, ⟨rfl, rfl⟩, rfl, ?_⟩, say_map h.2⟩
    unfold refFits
    rw [within_iff.2 h3]
    simp only [Bool.true_and, Bool.false_and, Bool.not_false, Bool.false_or, Nat.zero_testBit, tmod80 (show 0 ≤ s.price by omega), beq_self_eq_true]
theorem CanAll.ok {b : Brd} : ∀ {l : List Wd} {w : Wrk}, CanAll b l w → ∀ y ∈ l, y.ok b
  | z :: l, w, ⟨h1, h2, h3⟩, y, hy => by
    rcases List.mem_cons.1 hy with rfl | hy
    · exact h1
    · exact h3.ok y hy
theorem nu_len {n : Nat} (h : n ≤ 99) : (Lib.decDigits n ++ [115]).length ≤ 3 := by
  have := dd_len2 (show n < 100 by omega); simp; omega
theorem mi_len {m : Nat} (h : m ≤ 600) : (64 :: Lib.decDigits m).length ≤ 4 := by
  have := dd_len (show m < 1000 by omega); simp; omega
theorem sh_len {b : Brd} {x : Nat} (h : x < 80) : ((Wd.sh x).text b).length = 3 := by
  simp only [Wd.text, dd1 (show x / 8 < 10 by omega), dd1 (show x % 8 < 10 by omega)]; rfl
theorem need_len {b : Brd} (v : BrdOK b) : ∀ {l : List Sal} {bm st : Int}, okAll b l bm = true → 0 ≤ bm → (sps ((need l bm st 0).map (Wd.text b))).length ≤ 17 * l.length
  | [], _, _, _, _ => by simp [need, sps]
  | s :: r, bm, st, h, h0 => by
    unfold okAll at h
    rw [Bool.and_eq_true] at h
    obtain ⟨h1, h2, h3, h4⟩ := okSal_iff.1 h.1
    have ih := need_len v (st := s.stock) h.2 (by omega)
    unfold need
    rw [List.map_append, List.map_append, List.map_append, List.map_cons, map_optW, map_optW, map_optW, sps_app, sps_app, sps_app]
    have l1 : (sps (bif s.minute != bm then [(Wd.mi s.minute.toNat).text b] else [])).length ≤ 5 := by
      cases s.minute != bm
      · simp [sps]
      · have := mi_len (m := s.minute.toNat) (by omega)
        simp only [cond_true, sps, Wd.text, List.length_cons, List.length_append, List.length_nil] at this ⊢; omega
    have l2 : (sps (bif s.stock != st then [(Wd.na s.stock.toNat).text b] else [])).length ≤ 4 := by
      cases s.stock != st
      · simp [sps]
      · have := nmd_all (name_ok v (show s.stock.toNat < b.stocks.length by omega))
        simp only [cond_true, sps, Wd.text, List.length_cons, List.length_append, List.length_nil] at this ⊢; omega
    have l3 : (sps (bif decide (1 < s.number) && decide ((0 : Int) ≤ 0) then [(Wd.nu s.number.toNat).text b] else [])).length ≤ 4 := by
      cases decide (1 < s.number) && decide ((0 : Int) ≤ 0)
      · simp [sps]
      · have := nu_len (n := s.number.toNat) (by omega)
        simp only [cond_true, sps, Wd.text, List.length_cons, List.length_append, List.length_nil] at this ⊢; omega
    have l4 := sh_len (b := b) (x := s.price.toNat % 80) (by omega)
    simp only [List.length_append, sps, List.length_cons]
    omega
/-- What is written. -/
theorem write_law {b : Brd} {l : List Sal} : writeI b l = bif checkT b != 0 then ([], checkT b) else bif decide (8 < (l.length : Int)) then ([], 3) else bif okAll b l 0 then ((sps ((need l 0 (-1) 0).map (Wd.text b))).drop 1, 0) else ([], 2) := by
  unfold writeI
  rw [writeGo_eq (by decide)]
  show (bif _ then _ else bif _ then _ else match (bif okAll b l 0 then some ([] ++ (need l 0 (-1) 0).map (Wd.text b)) else none) with | none => _ | some ws => _) = _
  cases okAll b l 0
  · rfl
  · rw [cond_true, cond_true, List.nil_append, ← join_sps]
theorem write_says {b : Brd} {l : List Sal} (h : checkT b = 0) (hl : l.length ≤ 8) (hok : okAll b l 0 = true) : saysB b ((sps ((need l 0 (-1) 0).map (Wd.text b))).drop 1) l = true := by
  have v := valid_of h
  have hrun := need_run v (w := wrk0) hok (by decide) (by decide) (by simpa [wrk0] using hl) rfl
  have hlen := need_len v (st := -1) hok (by omega)
  have e0 : need l wrk0.minute wrk0.stock 0 = need l 0 (-1) 0 := rfl
  rw [e0] at hrun
  cases hn : need l 0 (-1) 0 with
  | nil =>
    rw [hn] at hrun
    have : l = [] := by
      cases l with
      | nil => rfl
      | cons s r => unfold need at hn; simp at hn
    subst this
    unfold saysB
    have e : readI b ((sps (([] : List Wd).map (Wd.text b))).drop 1) = ([], 0) := by rw [← ref_read h]; rfl
    rw [e]; rfl
  | cons x r =>
    rw [hn] at hrun hlen
    have e : (sps ((x :: r).map (Wd.text b))).drop 1 = x.text b ++ sps (r.map (Wd.text b)) := rfl
    have e2 : (sps ((x :: r).map (Wd.text b))).length = (x.text b ++ sps (r.map (Wd.text b))).length + 1 := rfl
    rw [e]
    unfold saysB
    rw [read_words h hrun.1 (by omega), decide_eq_false (by omega), cond_false, hrun.2.1]
    exact say_map hok
theorem bl_app : ∀ {p a c : List UInt8}, Op.bytesLess (p ++ a) (p ++ c) = Op.bytesLess a c
  | [], _, _ => rfl
  | x :: p, a, c => by
    show (decide (x < x) || (x == x && Op.bytesLess (p ++ a) (p ++ c))) = _
    rw [bl_app, decide_eq_false (UInt8.lt_irrefl x)]; simp
theorem bl_irr : ∀ {a : List UInt8}, Op.bytesLess a a = false
  | [] => rfl
  | x :: a => by
    show (decide (x < x) || (x == x && Op.bytesLess a a)) = _
    rw [bl_irr, decide_eq_false (UInt8.lt_irrefl x)]; simp
theorem bl_head {x y : UInt8} {a c : List UInt8} (h : x.toNat < y.toNat) : Op.bytesLess (y :: a) (x :: c) = false := by
  show (decide (y < x) || (y == x && Op.bytesLess a c)) = _
  rw [decide_eq_false (by rw [UInt8.lt_iff_toNat_lt]; omega), show (y == x) = false by rw [beq_eq_false_iff_ne]; rintro rfl; omega]; rfl
theorem refW_out {b : Brd} {w : Wrk} {t : Tok} {nm : Int} : ∃ ps, (refW b w t nm).out = w.out ++ ps := by
  unfold refW
  have H : ∀ (c : Bool) (x y : Wrk), (∃ ps, x.out = w.out ++ ps) → (∃ ps, y.out = w.out ++ ps) → ∃ ps, (bif c then x else y).out = w.out ++ ps := fun c x y h1 h2 => by cases c; exact h2; exact h1
  have h0 : ∀ x : Wrk, x.out = w.out → ∃ ps, x.out = w.out ++ ps := fun x h => ⟨[], by rw [h]; simp⟩
  exact H _ _ _ (h0 _ rfl) (H _ _ _ (h0 _ rfl) (H _ _ _ (h0 _ rfl) (H _ _ _ (h0 _ rfl) (H _ _ _ (h0 _ rfl) ⟨_, rfl⟩))))
theorem refGo_out {b : Brd} : ∀ {ts : List (List UInt8)} {w w' : Wrk}, refGo b ts w = (0, w') → ∃ ps, w'.out = w.out ++ ps
  | [], w, w', h => ⟨[], by unfold refGo at h; cases h; simp⟩
  | x :: r, w, w', h => by
    unfold refGo at h
    cases he : refE w (refTok x) (nmI b x) != 0
    · rw [he, cond_false] at h
      obtain ⟨p1, e1⟩ := refW_out (b := b) (w := w) (t := refTok x) (nm := nmI b x)
      obtain ⟨p2, e2⟩ := refGo_out h
      exact ⟨p1 ++ p2, by rw [e2, e1]; simp⟩
    · rw [he, cond_true] at h
      have h1 := congrArg Prod.fst h
      dsimp only at h1
      rw [h1] at he; cases he
/-- What texts tokens of a kind have. -/
theorem tok_inv {b : Brd} (v : BrdOK b) (x : List UInt8) : ∃ k : Nat, (refTok x).kind = k ∧ k ≤ 8 ∧ (k = 1 → namedB x = true) ∧ (k = 2 → ∃ n : Nat, (refTok x).fst = n ∧ n ≤ 99 ∧ 1 ≤ n ∧ x = Lib.decDigits n ++ [115]) ∧ (k = 3 → ∃ n : Nat, (refTok x).fst = n ∧ x.length = 3 ∧ x = Lib.decDigits (n / 8) ++ [46] ++ Lib.decDigits (n % 8)) ∧ (k = 4 → 4 ≤ x.length) ∧ (k = 5 → ∃ n : Nat, (refTok x).fst = n ∧ n ≤ 600 ∧ x = 64 :: Lib.decDigits n) := by
  have hform : ∀ {s : List UInt8}, (pointD s).2.2 = true → ∃ n : Nat, 8 * (pointD s).1 + (pointD s).2.1 = n ∧ s = Lib.decDigits (n / 8) ++ [46] ++ Lib.decDigits (n % 8) ∧ 3 ≤ s.length := fun {s} h => by
    obtain ⟨a, c, d, rfl, hd, h1, h2, e⟩ := point_form h
    refine ⟨8 * d + (c.toNat - 48), by rw [e]; simp only; omega, ?_, by have := (dig_all hd).2.1; simp; omega⟩
    rw [show (8 * d + (c.toNat - 48)) / 8 = d by omega, show (8 * d + (c.toNat - 48)) % 8 = c.toNat - 48 by omega, dig_itoa hd, dd1 (by omega), show 48 + (c.toNat - 48) = c.toNat by omega, UInt8.ofNat_toNat]
    simp
  unfold refTok
  cases q1 : x == [33] with
  | true => exact ⟨7, rfl, by omega, fun h => by omega, fun h => by omega, fun h => by omega, fun h => by omega, fun h => by omega⟩
  | false =>
  cases q2 : x == [63] with
  | true => exact ⟨8, rfl, by omega, fun h => by omega, fun h => by omega, fun h => by omega, fun h => by omega, fun h => by omega⟩
  | false =>
  cases q3 : namedB x with
  | true => exact ⟨1, rfl, by omega, fun h => rfl, fun h => by omega, fun h => by omega, fun h => by omega, fun h => by omega⟩
  | false =>
  simp only [cond_false]
  cases q4 : decide ((x.length : Int) < 2) with
  | true => exact ⟨0, rfl, by omega, fun h => by omega, fun h => by omega, fun h => by omega, fun h => by omega, fun h => by omega⟩
  | false =>
  have hlen : 2 ≤ x.length := by simp only [decide_eq_false_iff_not] at q4; omega
  simp only [cond_false]
  cases q5 : ((dig (x.take (x.length - 1))).isSome && x.getD (x.length - 1) 0 == 115 && withinB ((dig (x.take (x.length - 1))).getD 0 : Nat) 1 99) with
  | true =>
    rw [Bool.and_eq_true, Bool.and_eq_true] at q5
    obtain ⟨⟨g1, g2⟩, g3⟩ := q5
    obtain ⟨n, hn⟩ := Option.isSome_iff_exists.1 g1
    rw [hn] at g3 ⊢
    have g3 := within_iff.1 g3
    simp only [Option.getD_some] at g3
    refine ⟨2, rfl, by omega, fun h => by omega, fun _ => ⟨n, rfl, by omega, by omega, ?_⟩, fun h => by omega, fun h => by omega, fun h => by omega⟩
    rw [dig_itoa hn]
    obtain ⟨c, hc⟩ := ex_get (show x.length - 1 < x.length by omega)
    have e := drop_get hc
    rw [show x.length - 1 + 1 = x.length by omega, List.drop_length] at e
    rw [getD_of hc, beq_iff_eq] at g2
    subst g2
    rw [← e, List.take_append_drop]
  | false =>
  simp only [cond_false]
  cases q6 : ((pointD x).2.2 && (x.length : Int) == 3) with
  | true =>
    rw [Bool.and_eq_true, beq_iff_eq] at q6
    obtain ⟨n, e1, e2, e3⟩ := hform q6.1
    exact ⟨3, rfl, by omega, fun h => by omega, fun h => by omega, fun _ => ⟨n, e1, by omega, e2⟩, fun h => by omega, fun h => by omega⟩
  | false =>
  simp only [cond_false]
  cases q7 : ((pointD (x.drop 1)).2.2 && x.getD 0 0 == 36 && withinB (8 * (pointD (x.drop 1)).1 + (pointD (x.drop 1)).2.1) 1 799) with
  | true =>
    rw [Bool.and_eq_true, Bool.and_eq_true] at q7
    obtain ⟨n, e1, e2, e3⟩ := hform q7.1.1
    refine ⟨4, rfl, by omega, fun h => by omega, fun h => by omega, fun h => by omega, fun _ => ?_, fun h => by omega⟩
    rw [List.length_drop] at e3; omega
  | false =>
  simp only [cond_false]
  cases q8 : ((dig (x.drop 1)).isSome && x.getD 0 0 == 64 && decide (((dig (x.drop 1)).getD 0 : Int) ≤ 600)) with
  | true =>
    rw [Bool.and_eq_true, Bool.and_eq_true] at q8
    obtain ⟨⟨g1, g2⟩, g3⟩ := q8
    obtain ⟨n, hn⟩ := Option.isSome_iff_exists.1 g1
    rw [hn] at g3 ⊢
    simp only [Option.getD_some, decide_eq_true_eq] at g3
    refine ⟨5, rfl, by omega, fun h => by omega, fun h => by omega, fun h => by omega, fun h => by omega, fun _ => ⟨n, rfl, by omega, ?_⟩⟩
    cases x with
    | nil => simp at hlen
    | cons y r =>
      simp only [List.getD_cons_zero, beq_iff_eq, List.drop_succ_cons, List.drop_zero] at g2 hn
      rw [g2, dig_itoa hn]
  | false =>
  simp only [cond_false]
  cases q9 : lateL x with
  | none => exact ⟨0, rfl, by omega, fun h => by omega, fun h => by omega, fun h => by omega, fun h => by omega, fun h => by omega⟩
  | some ab => exact ⟨6, rfl, by omega, fun h => by omega, fun h => by omega, fun h => by omega, fun h => by omega, fun h => by omega⟩
theorem nm_pos {b : Brd} {x : List UInt8} (h : 0 ≤ nmI b x) : ∃ k : Nat, nmI b x = k ∧ k < b.stocks.length ∧ (b.stocks.getD k stk0).name = x := by
  have key : ∀ j, 0 ≤ nmUpto b x j → ∃ k : Nat, nmUpto b x j = k ∧ k < j ∧ (b.stocks.getD k stk0).name = x := by
    intro j
    induction j with
    | zero => intro h; unfold nmUpto at h; omega
    | succ j ih =>
      intro h
      unfold nmUpto at h ⊢
      cases hb : (b.stocks.getD j ⟨[], 0, 0⟩).name == x
      · rw [hb, cond_false] at h
        rw [cond_false]
        obtain ⟨k, h1, h2, h3⟩ := ih h
        exact ⟨k, h1, by omega, h3⟩
      · rw [cond_true]
        exact ⟨j, rfl, by omega, eq_of_beq hb⟩
  exact key _ h
def spsW (b : Brd) (l : List Wd) : List UInt8 := sps (l.map (Wd.text b))
theorem spsW_cons {b : Brd} {x : Wd} {l : List Wd} : spsW b (x :: l) = 32 :: (x.text b ++ spsW b l) := rfl
theorem spsW_optlen {b : Brd} {c : Bool} {x : Wd} {l : List Wd} : (spsW b (optW c x ++ l)).length = (bif c then 1 + (x.text b).length else 0) + (spsW b l).length := by
  cases c
  · show (spsW b l).length = 0 + (spsW b l).length; omega
  · show (32 :: (x.text b ++ spsW b l)).length = 1 + (x.text b).length + (spsW b l).length
    simp only [List.length_cons, List.length_append]; omega
/-- The least cost of sales from a state on, and the first among the cheapest. -/
def Cheap (b : Brd) (ts : List (List UInt8)) (l : List Sal) (w : Wrk) : Prop :=
  (0 < w.number → ∃ s r, l = s :: r ∧ s.number = w.number ∧ s.minute = w.minute ∧ s.stock = w.stock) ∧
  (spsW b (need l w.minute w.stock w.number)).length ≤ (sps ts).length ∧
  ((spsW b (need l w.minute w.stock w.number)).length = (sps ts).length → Op.bytesLess (sps ts) (spsW b (need l w.minute w.stock w.number)) = false)
theorem cheap_lt {b : Brd} {ts : List (List UInt8)} {l : List Sal} {w : Wrk} (h0 : w.number ≤ 0) (h : (spsW b (need l w.minute w.stock w.number)).length < (sps ts).length) : Cheap b ts l w := ⟨fun h => by omega, by omega, fun e => by omega⟩
theorem cheap_all {b : Brd} (v : BrdOK b) : ∀ {ts : List (List UInt8)} {w w' : Wrk} {ps : List Prt} {l : List Sal} {bm : Int}, refGo b ts w = (0, w') → w'.number ≤ 0 → w'.out = w.out ++ ps → sayL ps l = true → okAll b l bm = true → 0 ≤ bm → Cheap b ts l w
  | [], w, w', ps, l, bm, h, hn, ho, hs, hok, hbm => by
    unfold refGo at h
    obtain rfl : w = w' := by cases h; rfl
    obtain rfl : ps = [] := by simpa using ho
    cases l with
    | nil => exact ⟨fun h => by omega, Nat.le_refl _, fun _ => bl_irr⟩
    | cons s r => cases hs
  | x :: ts, w, w', ps, l, bm, h, hn, ho, hs, hok, hbm => by
    obtain ⟨k, hk, hk8, t1, t2, t3, t4, t5⟩ := tok_inv v x
    unfold refGo at h
    cases he : refE w (refTok x) (nmI b x) != 0
    rotate_left
    · rw [he, cond_true] at h
      have h1 := congrArg Prod.fst h
      dsimp only at h1
      rw [h1] at he; cases he
    rw [he, cond_false] at h
    have he : refE w (refTok x) (nmI b x) = 0 := by simpa using he
    have hts : (sps (x :: ts)).length = 1 + x.length + (sps ts).length := by simp only [sps, List.length_cons, List.length_append]; omega
    generalize hT : refTok x = T at *
    obtain ⟨kd, f, g, tx⟩ := T
    dsimp only at hk t1 t2 t3 t4 t5
    subst hk
    have hpriced : (k = 3 ∨ k = 4) → 3 ≤ x.length → (k = 3 → x.length = 3 ∧ ∃ n : Nat, f = n ∧ x = Lib.decDigits (n / 8) ++ [46] ++ Lib.decDigits (n % 8)) → (k = 4 → 4 ≤ x.length) → refW b w ⟨k, f, g, tx⟩ (nmI b x) = { w with number := 0, out := w.out ++ [saleP w b ⟨k, f, g, tx⟩] } → Cheap b (x :: ts) l w := by
      intro hk34 hx3 hx hx4 hW
      rw [hW] at h
      obtain ⟨ps', e'⟩ := refGo_out h
      have hps : ps = saleP w b ⟨k, f, g, tx⟩ :: ps' := by
        rw [ho] at e'
        dsimp only at e'
        rw [List.append_assoc] at e'
        exact List.append_cancel_left e'
      subst hps
      cases l with
      | nil => cases hs
      | cons s r =>
        unfold sayL at hs
        rw [Bool.and_eq_true] at hs
        obtain ⟨a1, a2, a3, a4⟩ := sayP_iff.1 hs.1
        unfold okAll at hok
        rw [Bool.and_eq_true] at hok
        obtain ⟨b1, b2, b3, b4⟩ := okSal_iff.1 hok.1
        have ih := cheap_all v h hn e' hs.2 hok.2 (by omega)
        have a1 : w.stock = s.stock := a1
        have a3 : w.minute = s.minute := a3
        have hnum : (0 < w.number → s.number = w.number) ∧ (w.number ≤ 0 → s.number = 1) := by
          have a2 : (saleN w b).1 = s.number ∧ (saleN w b).2 = s.number := a2
          unfold saleN at a2
          refine ⟨fun hp => ?_, fun hp => ?_⟩
          · rw [decide_eq_true hp] at a2; exact a2.1.symm
          · rw [decide_eq_false (by omega), cond_false] at a2
            cases hr : w.rush <;> rw [hr] at a2
            · exact a2.1.symm
            · exact a2.1.symm
        have hneed : need (s :: r) w.minute w.stock w.number = .sh (s.price.toNat % 80) :: need r s.minute s.stock 0 := by
          rw [need, a1, a3, show (s.minute != s.minute) = false by simp, show (s.stock != s.stock) = false by simp]
          have : (decide (1 < s.number) && decide (w.number ≤ 0)) = false := by
            by_cases hp : w.number ≤ 0
            · rw [decide_eq_false (by have := hnum.2 hp; omega)]; rfl
            · rw [decide_eq_false hp, Bool.and_false]
          rw [this]; rfl
        obtain ⟨i1, i2, i3⟩ := ih
        dsimp only at i1 i2 i3
        rw [a3, a1] at i2 i3
        have hl3 := sh_len (b := b) (x := s.price.toNat % 80) (by omega)
        refine ⟨fun hp => ⟨s, r, rfl, hnum.1 hp, a3.symm, a1.symm⟩, ?_, fun e => ?_⟩
        · rw [hneed, spsW_cons, hts]
          simp only [List.length_cons, List.length_append]
          omega
        · rw [hneed, spsW_cons, hts] at e
          simp only [List.length_cons, List.length_append] at e
          rcases hk34 with rfl | rfl
          · obtain ⟨hx3', n, rfl, hxe⟩ := hx rfl
            have hfn : n = s.price.toNat % 80 := by
              have a4 : refFits (saleP w b ⟨3, ((n : Nat) : Int), g, tx⟩) 0 s.price 0 = true := a4
              unfold refFits at a4
              rw [Bool.and_eq_true] at a4
              have a5 := a4.2
              rw [Nat.zero_testBit, Bool.false_or] at a5
              have a5 : (s.price.tmod 80 == ((n : Nat) : Int)) = true := by simpa [saleP] using a5
              rw [beq_iff_eq, tmod80 (by omega)] at a5
              omega
            rw [hneed, spsW_cons]
            subst hfn
            have hxt : x = (Wd.sh (s.price.toNat % 80)).text b := hxe
            show Op.bytesLess ([32] ++ (x ++ sps ts)) ([32] ++ ((Wd.sh (s.price.toNat % 80)).text b ++ _)) = false
            rw [bl_app, ← hxt, bl_app]
            exact i3 (by omega)
          · have := hx4 rfl; omega
    have hquiet : k = 0 ∨ k = 6 ∨ k = 7 ∨ k = 8 → 1 ≤ x.length ∨ True → (refW b w ⟨k, f, g, tx⟩ (nmI b x)).minute = w.minute ∧ (refW b w ⟨k, f, g, tx⟩ (nmI b x)).stock = w.stock ∧ (refW b w ⟨k, f, g, tx⟩ (nmI b x)).number = w.number ∧ (refW b w ⟨k, f, g, tx⟩ (nmI b x)).out = w.out → w.number ≤ 0 → Cheap b (x :: ts) l w := by
      intro _ _ ⟨e1, e2, e3, e4⟩ h0
      have ih := cheap_all v h hn (by rw [e4]; exact ho) hs hok hbm
      obtain ⟨i1, i2, i3⟩ := ih
      rw [e1, e2, e3] at i2
      exact cheap_lt h0 (by rw [hts]; omega)
    have hnum0 : k ≠ 3 → k ≠ 4 → k ≠ 0 → w.number ≤ 0 := by
      intro h3 h4 h0
      rcases Int.lt_or_le 0 w.number with hp | hp
      · exfalso
        unfold refE priceT at he
        dsimp only at he
        rw [show (((k : Nat) : Int) == 0) = false by simp; omega, cond_false, show (((k : Nat) : Int) == 3) = false by simp; omega, show (((k : Nat) : Int) == 4) = false by simp; omega, decide_eq_true hp] at he
        simp only [Bool.false_or, Bool.or_false, Bool.false_and, Bool.not_false, Bool.true_and, Bool.true_or, cond_true] at he
        revert he
        cases (((k : Nat) : Int) == 1 && decide (nmI b x < 0)) <;> simp
      · exact hp
    match k, hk8 with
    | 0, _ => exfalso; revert he; unfold refE; simp
    | 6, _ => exact hquiet (by omega) (.inr trivial) ⟨rfl, rfl, rfl, rfl⟩ (hnum0 (by omega) (by omega) (by omega))
    | 7, _ => exact hquiet (by omega) (.inr trivial) ⟨rfl, rfl, rfl, rfl⟩ (hnum0 (by omega) (by omega) (by omega))
    | 8, _ => exact hquiet (by omega) (.inr trivial) ⟨rfl, rfl, rfl, rfl⟩ (hnum0 (by omega) (by omega) (by omega))
    | 3, _ =>
      obtain ⟨n, e1, e2, e3⟩ := t3 rfl
      exact hpriced (.inl rfl) (by omega) (fun _ => ⟨e2, n, e1, e3⟩) (fun h => by omega) rfl
    | 4, _ => exact hpriced (.inr rfl) (by have := t4 rfl; omega) (fun h => by omega) (fun _ => t4 rfl) rfl
    | 1, _ =>
      have h0 := hnum0 (by omega) (by omega) (by omega)
      have hnm : 0 ≤ nmI b x := by
        rcases Int.lt_or_le (nmI b x) 0 with hp | hp
        · exfalso
          revert he; unfold refE; dsimp only; rw [decide_eq_true hp]; simp
        · exact hp
      obtain ⟨q, hq, hql, hqx⟩ := nm_pos hnm
      have ih := cheap_all v (w := { w with stock := nmI b x }) h hn ho hs hok hbm
      obtain ⟨i1, i2, i3⟩ := ih
      dsimp only at i1 i2 i3
      rw [hq] at i2 i3
      cases l with
      | nil => exact cheap_lt h0 (by rw [hts]; simp only [need, spsW, sps, List.map_nil, List.length_nil] at i2 ⊢; omega)
      | cons s r =>
        unfold okAll at hok
        rw [Bool.and_eq_true] at hok
        obtain ⟨b1, b2, b3, b4⟩ := okSal_iff.1 hok.1
        by_cases e1 : s.stock = w.stock
        · refine cheap_lt h0 ?_
          rw [hts]
          unfold need at i2 ⊢
          rw [spsW_optlen, spsW_optlen] at i2 ⊢
          rw [show (s.stock != w.stock) = false by simpa using e1]
          simp only [cond_false] at i2 ⊢
          revert i2
          cases s.stock != ((q : Nat) : Int) <;> simp only [cond_false, cond_true] <;> omega
        · by_cases e2 : s.stock = ((q : Nat) : Int)
          · have hxt : x = (Wd.na s.stock.toNat).text b := by show x = (b.stocks.getD s.stock.toNat stk0).name; rw [e2, Int.toNat_natCast, hqx]
            have hc1 : (s.stock != w.stock) = true := by simpa using e1
            have hc2 : (s.stock != ((q : Nat) : Int)) = false := by simpa using e2
            unfold need at i2 i3
            rw [spsW_optlen, spsW_optlen, hc2] at i2
            refine ⟨fun h => by omega, ?_, fun e => ?_⟩
            · unfold need
              rw [hts, spsW_optlen, spsW_optlen, hc1, ← hxt]
              simp only [cond_true, cond_false] at i2 ⊢
              omega
            · unfold need at e ⊢
              rw [hts, spsW_optlen, spsW_optlen, hc1, ← hxt] at e
              simp only [cond_true] at e
              have i4 := i3 (by rw [spsW_optlen, spsW_optlen, hc2]; simp only [cond_false]; omega)
              rw [hc2] at i4
              rw [hc1]
              cases hm : s.minute != w.minute
              · rw [hm] at i4
                show Op.bytesLess ([32] ++ (x ++ sps ts)) ([32] ++ ((Wd.na s.stock.toNat).text b ++ _)) = false
                rw [bl_app, ← hxt, bl_app]
                exact i4
              · show Op.bytesLess ([32] ++ (x ++ sps ts)) ([32] ++ (64 :: _)) = false
                rw [bl_app]
                have ha := nmd_all (t1 rfl)
                cases hxx : x with
                | nil => rw [hxx] at ha; simp at ha
                | cons y yr =>
                  have := ha.2.2 y (by rw [hxx]; exact List.mem_cons_self)
                  exact bl_head (by show 64 < y.toNat; omega)
          · refine cheap_lt h0 ?_
            rw [hts]
            unfold need at i2 ⊢
            rw [spsW_optlen, spsW_optlen] at i2 ⊢
            rw [show (s.stock != w.stock) = true by simpa using e1]
            rw [show (s.stock != ((q : Nat) : Int)) = true by simpa using e2] at i2
            omega
    | 2, _ =>
      have h0 := hnum0 (by omega) (by omega) (by omega)
      obtain ⟨n, rfl, hn9, hn1, hxe⟩ := t2 rfl
      have ih := cheap_all v (w := { w with number := ((n : Nat) : Int) }) h hn ho hs hok hbm
      obtain ⟨i1, i2, i3⟩ := ih
      dsimp only at i1 i2 i3
      obtain ⟨s, r, rfl, j1, j2, j3⟩ := i1 (by omega)
      have hc1 : (s.minute != w.minute) = false := by simpa using j2
      have hc2 : (s.stock != w.stock) = false := by simpa using j3
      have hc3 : (decide (1 < s.number) && decide (((n : Nat) : Int) ≤ 0)) = false := by rw [decide_eq_false (show ¬ ((n : Nat) : Int) ≤ 0 by omega), Bool.and_false]
      unfold need at i2 i3
      rw [hc1, hc2, hc3] at i2 i3
      by_cases e1 : 1 < s.number
      · have hc4 : (decide (1 < s.number) && decide (w.number ≤ 0)) = true := by rw [decide_eq_true e1, decide_eq_true h0]; rfl
        have hxt : x = (Wd.nu s.number.toNat).text b := by rw [j1, Int.toNat_natCast]; exact hxe
        refine ⟨fun h => by omega, ?_, fun e => ?_⟩
        · unfold need
          rw [hc1, hc2, hc4]
          show (32 :: ((Wd.nu s.number.toNat).text b ++ spsW b (.sh (s.price.toNat % 80) :: need r s.minute s.stock 0))).length ≤ _
          rw [hts, ← hxt]
          have i2 : (spsW b (.sh (s.price.toNat % 80) :: need r s.minute s.stock 0)).length ≤ (sps ts).length := i2
          simp only [List.length_cons, List.length_append]; omega
        · unfold need at e ⊢
          rw [hc1, hc2, hc4] at e ⊢
          have e : (32 :: ((Wd.nu s.number.toNat).text b ++ spsW b (.sh (s.price.toNat % 80) :: need r s.minute s.stock 0))).length = _ := e
          rw [hts, ← hxt] at e
          simp only [List.length_cons, List.length_append] at e
          show Op.bytesLess ([32] ++ (x ++ sps ts)) ([32] ++ ((Wd.nu s.number.toNat).text b ++ spsW b (.sh (s.price.toNat % 80) :: need r s.minute s.stock 0))) = false
          rw [bl_app, ← hxt, bl_app]
          exact i3 (by show (spsW b (.sh (s.price.toNat % 80) :: need r s.minute s.stock 0)).length = _; omega)
      · refine cheap_lt h0 ?_
        unfold need
        rw [hc1, hc2, decide_eq_false e1, hts]
        have i2 : (spsW b (.sh (s.price.toNat % 80) :: need r s.minute s.stock 0)).length ≤ (sps ts).length := i2
        show (spsW b (.sh (s.price.toNat % 80) :: need r s.minute s.stock 0)).length < _
        omega
    | 5, _ =>
      have h0 := hnum0 (by omega) (by omega) (by omega)
      obtain ⟨n, rfl, hn6, hxe⟩ := t5 rfl
      have ih := cheap_all v (w := { w with minute := ((n : Nat) : Int) }) h hn ho hs hok hbm
      obtain ⟨i1, i2, i3⟩ := ih
      dsimp only at i1 i2 i3
      cases l with
      | nil => exact cheap_lt h0 (by rw [hts]; simp only [need, spsW, sps, List.map_nil, List.length_nil] at i2 ⊢; omega)
      | cons s r =>
        unfold okAll at hok
        rw [Bool.and_eq_true] at hok
        obtain ⟨b1, b2, b3, b4⟩ := okSal_iff.1 hok.1
        by_cases e1 : s.minute = w.minute
        · refine cheap_lt h0 ?_
          rw [hts]
          unfold need at i2 ⊢
          rw [spsW_optlen] at i2 ⊢
          rw [show (s.minute != w.minute) = false by simpa using e1]
          revert i2
          cases s.minute != ((n : Nat) : Int) <;> simp only [cond_false, cond_true] <;> omega
        · by_cases e2 : s.minute = ((n : Nat) : Int)
          · have hxt : x = (Wd.mi s.minute.toNat).text b := by rw [e2, Int.toNat_natCast]; exact hxe
            have hc1 : (s.minute != w.minute) = true := by simpa using e1
            have hc2 : (s.minute != ((n : Nat) : Int)) = false := by simpa using e2
            unfold need at i2 i3
            rw [hc2] at i2 i3
            refine ⟨fun h => by omega, ?_, fun e => ?_⟩
            · unfold need
              rw [hts, spsW_optlen, hc1, ← hxt]
              rw [spsW_optlen] at i2
              simp only [cond_true, cond_false] at i2 ⊢
              omega
            · unfold need at e ⊢
              rw [hts, spsW_optlen, hc1, ← hxt] at e
              simp only [cond_true] at e
              have i4 := i3 (by rw [spsW_optlen]; simp only [cond_false]; omega)
              rw [hc1]
              show Op.bytesLess ([32] ++ (x ++ sps ts)) ([32] ++ ((Wd.mi s.minute.toNat).text b ++ _)) = false
              rw [bl_app, ← hxt, bl_app]
              exact i4
          · refine cheap_lt h0 ?_
            rw [hts]
            unfold need at i2 ⊢
            rw [spsW_optlen] at i2 ⊢
            rw [show (s.minute != w.minute) = true by simpa using e1]
            rw [show (s.minute != ((n : Nat) : Int)) = true by simpa using e2] at i2
            omega
theorem split_spsI : ∀ {s cur : List UInt8}, sps (splitGo s cur) = 32 :: (cur ++ s)
  | [], cur => by simp [splitGo, sps]
  | x :: r, cur => by
    unfold splitGo
    by_cases e : x = 32
    · subst e
      rw [show ((32 : UInt8) == 32) = true from rfl, cond_true]
      show 32 :: (cur ++ sps (splitGo r [])) = _
      rw [split_spsI]; simp
    · rw [show (x == 32) = false by simpa using e, cond_false, split_spsI]; simp
/-- No other tape that says the sales is shorter, or as long and comes first. -/
theorem other_law {b : Brd} {l : List Sal} {t : List UInt8} (h : checkT b = 0) (hok : okAll b l 0 = true) (hs : saysB b t l = true) : ((sps ((need l 0 (-1) 0).map (Wd.text b))).drop 1).length ≤ t.length ∧ (t.length = ((sps ((need l 0 (-1) 0).map (Wd.text b))).drop 1).length → Op.bytesLess t ((sps ((need l 0 (-1) 0).map (Wd.text b))).drop 1) = false) := by
  have v := valid_of h
  unfold saysB at hs
  rw [Bool.and_eq_true, beq_iff_eq, ← ref_read h] at hs
  obtain ⟨h1, h2⟩ := hs
  unfold refReadI at h1 h2
  cases hc1 : decide (160 < (t.length : Int))
  rotate_left
  · rw [hc1] at h1; cases h1
  rw [hc1, cond_false] at h1 h2
  cases hc2 : (refGo b (refToks t) wrk0).1 != 0
  rotate_left
  · rw [hc2, cond_true] at h1
    dsimp only at h1
    rw [h1] at hc2; cases hc2
  rw [hc2, cond_false] at h1 h2
  cases hc3 : decide (0 < (refGo b (refToks t) wrk0).2.number)
  rotate_left
  · rw [hc3] at h1; cases h1
  rw [hc3, cond_false] at h2
  have hgo : refGo b (refToks t) wrk0 = (0, (refGo b (refToks t) wrk0).2) := by
    have : (refGo b (refToks t) wrk0).1 = 0 := by simpa using hc2
    exact Prod.ext this rfl
  have hch := cheap_all v hgo (by simpa using hc3) (ps := (refGo b (refToks t) wrk0).2.out) (by simp [wrk0]) h2 hok (by omega)
  obtain ⟨_, i2, i3⟩ := hch
  have e0 : spsW b (need l wrk0.minute wrk0.stock wrk0.number) = sps ((need l 0 (-1) 0).map (Wd.text b)) := rfl
  rw [e0] at i2 i3
  cases ht : t == [] with
  | true =>
    obtain rfl : t = [] := by simpa using ht
    have : (sps (refToks [])).length = 0 := rfl
    rw [this] at i2
    have e : sps ((need l 0 (-1) 0).map (Wd.text b)) = [] := List.eq_nil_of_length_eq_zero (by omega)
    rw [e]
    exact ⟨Nat.le_refl _, fun _ => rfl⟩
  | false =>
    have et : sps (refToks t) = 32 :: t := by unfold refToks; rw [ht, cond_false, split_spsI]; rfl
    rw [et] at i2 i3
    cases hn : sps ((need l 0 (-1) 0).map (Wd.text b)) with
    | nil =>
      refine ⟨by simp, fun _ => ?_⟩
      show Op.bytesLess t [] = false
      cases t <;> rfl
    | cons y r =>
      rw [hn] at i2 i3
      have hy : y = 32 := by
        cases hw : (need l 0 (-1) 0).map (Wd.text b) with
        | nil => rw [hw] at hn; cases hn
        | cons z zr => rw [hw] at hn; simp only [sps, List.cons.injEq] at hn; exact hn.1.symm
      subst hy
      simp only [List.drop_succ_cons, List.drop_zero, List.length_cons] at i2 i3 ⊢
      refine ⟨by omega, fun e => ?_⟩
      have := i3 (by omega)
      exact (bl_app (p := [32]) (a := t) (c := r)).symm.trans this
end Go.Proofs.YtplpcamcnppibaaGreatDoor
namespace Go.Proofs.YtplpcamcnppibaaGreatDoor
open Go.RowKit
set_option maxRecDepth 20000
set_option linter.all false
set_option maxHeartbeats 4000000
theorem q_geqS {Γ : Cx} {P : Program} {σ : St} {o : Oper} {R : Rel} {x y : Operand} {t t' : TypeId} {a b : List UInt8} (h : o.op = .binOp .geq t x y t') (hx : σ.ev x = some (true, .d (strD a))) (hy : σ.ev y = some (true, .d (strD b))) : QV Γ P σ o R (.d (.bool (!Op.bytesLess a b))) := fun A w F hs => by
  have h1 := hs.ev hx
  have h2 := hs.ev hy
  simp only [TRep, Rep] at h1 h2
  have hb : ∀ w', (binOp .geq t (.string ⟨a.toArray⟩) (.string ⟨b.toArray⟩)).run P w' = .ok (.bool (!Op.bytesLess a b)) w' := fun w' => by
    show (Op.stringOp .geq ⟨a.toArray⟩ ⟨b.toArray⟩).run P w' = _
    simp [Op.stringOp]
  exact ⟨.bool (!Op.bytesLess a b), rfl, fun w' _ => by simp [execOp, h, h1, h2, hb, eqGuard_at_string]⟩
theorem u8n {n : Nat} (h : n < 256) : IntKind.u8.wrap ((n : Nat) : Int) = ((UInt8.ofNat n).toNat : Int) := by
  rw [tn h]
  simp only [IntKind.wrap, IntKind.bits, IntKind.signed]
  simp
  omega
/-- What is still to be written of a number. -/
def restD (c : Bool) (m : Nat) : List UInt8 := bif c || decide (0 < m) then Lib.decDigits m else []
theorem rest_step {c : Bool} {m : Nat} {a : List UInt8} (h : (c || decide (0 < m)) = true) : restD false (m / 10) ++ ([UInt8.ofNat (48 + m % 10)] ++ a) = restD c m ++ a := by
  unfold restD
  rw [h, cond_true, Bool.false_or]
  by_cases h1 : m < 10
  · rw [dd1 h1, decide_eq_false (by omega), Nat.mod_eq_of_lt h1]; rfl
  · rw [dd2 h1, decide_eq_true (by omega)]; simp
theorem rest_len {c : Bool} {m n : Nat} {a : List UInt8} (h : restD c m ++ a = Lib.decDigits n) (hn : n < 1000) : a.length ≤ 3 := by
  have := congrArg List.length h
  have h2 := dd_len hn
  rw [List.length_append] at this
  omega
def bmAt (l : List Sal) (i : Nat) : Int := match i with
  | 0 => 0
  | j + 1 => (l.getD j sal0).minute
def sfI (b : Brd) (l : List Sal) : Int := bif decide (8 < (l.length : Int)) then 3 else bif okAll b l 0 then 0 else 2
theorem bm_within {x m p : Int} {i : Nat} (h0 : i = 0 → m = 0) (h1 : 0 < i → m = p) (hm : 0 ≤ m) : withinB x m 600 = (withinB x 0 600 && !(decide ((0 : Int) < (i : Nat)) && decide (x < p))) := by
  rw [Bool.eq_iff_iff]
  simp only [within_iff, Bool.and_eq_true, Bool.not_eq_true', Bool.and_eq_false_iff, decide_eq_false_iff_not]
  by_cases e : i = 0
  · have := h0 e
    constructor
    · intro h; exact ⟨by omega, .inl (by omega)⟩
    · rintro ⟨h, _⟩; omega
  · have := h1 (by omega)
    constructor
    · intro h; exact ⟨by omega, .inr (by omega)⟩
    · rintro ⟨h, h2 | h2⟩ <;> omega
theorem okAll_at {b : Brd} {l : List Sal} {i : Nat} {s : Sal} (hs : l[i]? = some s) : okAll b (l.drop i) (bmAt l i) = (okSal b s (bmAt l i) && okAll b (l.drop (i + 1)) (bmAt l (i + 1))) := by
  rw [drop_get hs, okAll]
  show _ = (okSal b s (bmAt l i) && okAll b (l.drop (i + 1)) (l.getD i sal0).minute)
  rw [getD_of hs]
theorem write_sf {b : Brd} {l : List Sal} : (writeI b l).2 = bif checkT b != 0 then checkT b else sfI b l := by
  rw [write_law]
  unfold sfI
  cases checkT b != 0
  · cases decide (8 < (l.length : Int))
    · cases okAll b l 0 <;> rfl
    · rfl
  · rfl
theorem write_bad {b : Brd} {l : List Sal} (h : (writeI b l).2 ≠ 0) : (writeI b l).1 = [] := by
  rw [write_law] at h ⊢
  revert h
  cases checkT b != 0
  · cases decide (8 < (l.length : Int))
    · cases okAll b l 0
      · exact fun _ => rfl
      · exact fun h => (h rfl).elim
    · exact fun _ => rfl
  · exact fun _ => rfl
theorem write_good {b : Brd} {l : List Sal} (h : (writeI b l).2 = 0) : checkT b = 0 ∧ l.length ≤ 8 ∧ okAll b l 0 = true ∧ (writeI b l).1 = (spsW b (need l 0 (-1) 0)).drop 1 := by
  rw [write_law] at h ⊢
  revert h
  cases h1 : checkT b != 0
  · cases h2 : decide (8 < (l.length : Int))
    · cases h3 : okAll b l 0
      · exact fun h => by cases h
      · exact fun h => ⟨by simpa using h1, by simp at h2; omega, rfl, rfl⟩
    · exact fun h => by cases h
  · exact fun h => by
      rw [cond_true] at h
      have h : checkT b = 0 := h
      rw [h] at h1; cases h1
theorem says_go {ps : List Prt} {l : List Sal} {i : Nat} {p : Prt} {s : Sal} (hp : ps[i]? = some p) (hs : l[i]? = some s) : sayL (ps.drop i) (l.drop i) = (sayP p s && sayL (ps.drop (i + 1)) (l.drop (i + 1))) := by
  rw [drop_get hp, drop_get hs, sayL]
theorem says_no {ps : List Prt} {l : List Sal} (h : ps.length ≠ l.length) : sayL ps l = false := by
  cases hs : sayL ps l with
  | false => rfl
  | true => exact (h (sayL_len hs)).elim
theorem spsW_o {b : Brd} {c : Bool} {x : Wd} : spsW b (optW c x) = bif c then 32 :: x.text b else [] := by
  cases c
  · rfl
  · show 32 :: (x.text b ++ []) = _; simp
theorem spsW_app {b : Brd} {x y : List Wd} : spsW b (x ++ y) = spsW b x ++ spsW b y := by unfold spsW; rw [List.map_append, sps_app]
theorem zr5 : (Tryz.prog.info? 5).map (·.zero) = some (some (.int .u8 0)) := by kernel_rfl
theorem zr91 : (Tryz.prog.info? 91).map (·.zero) = some (some (.agg #[(.int .i64 0), (.int .i64 0), (.int .i64 0), (.int .i64 0)])) := by kernel_rfl
theorem Text_ok (n : Nat) (h : n < 1000) : PureAt Tryz.prog 52 [.int .i64 (n : Nat)] (strD (Lib.decDigits n)) := by
  refine PureAt.of_awp Tryz.func52 rfl (by kernel_rfl) (Nat.le_of_ble_eq_true rfl) fun Γ hn hl => ?_
  refine awp_seq ?_
  refine awp_region ?_
  refine sq rfl rfl hn rfl (q_assign rfl rfl) ?_
  refine run_nil ?_
  refine aend_then ?_
  refine awp_seq ?_
  refine awp_region ?_
  refine sq rfl rfl hn rfl (q_assign rfl rfl) ?_
  refine run_nil ?_
  refine aend_then ?_
  refine awp_seq ?_
  refine awp_seq ?_
  refine awp_region ?_
  refine sq rfl rfl hn rfl (q_assign rfl rfl) ?_
  refine run_nil ?_
  refine aend_then ?_
  refine awp_block ?_
  refine awp_loop_on (ι := {x : Bool × Nat × List UInt8 // x.2.1 ≤ n ∧ restD x.1 x.2.1 ++ x.2.2 = Lib.decDigits n}) (fun x => (0, true, .d (.int .i64 (x.1.2.1 : Nat))) :: (3, true, .d (strD x.1.2.2)) :: (4, true, .d (.bool x.1.1)) :: anys [5, 6, 7, 8, 9, 10, 11, 12, 13, 14, 15, 16, 17, 18, 19]) (fun x => []) (fun x => x.1.2.1 + (bif x.1.1 then 1 else 0)) ⟨(true, n, []), Nat.le_refl _, by simp [restD]⟩ ⟨.inl rfl, .inl rfl, .inl rfl, holdT_anys _⟩ trivial ?_
  rintro ⟨⟨c, m, a⟩, hm, ha⟩
  dsimp only
  dsimp only at hm ha
  have hal := rest_len ha h
  refine awp_seq ?_
  refine awp_seq ?_
  refine awp_region ?_
  refine sq rfl rfl hn rfl (q_move rfl rfl) ?_
  refine sq rfl rfl hn rfl (q_move rfl rfl) ?_
  refine stepG [] (guard_some rfl rfl rfl) rfl (nb hn rfl) (fun hc => trivial) (fun hc => q_move rfl rfl) ?_
  refine stepG [(7, _)] (guard_some rfl rfl rfl) rfl (nb hn rfl) (fun hc => ⟨⟨_, rfl, hc⟩, trivial⟩) (fun hc => q_gtr rfl rfl rfl) ?_
  refine sq rfl rfl hn rfl (q_or rfl rfl rfl (by intro hB; first | (rw [hB]; rfl) | (rw [hB, hc]; rfl) | simp_all)) ?_
  refine run_nil ?_
  refine aend_then ?_
  refine awp_cond rfl (fun hb0 => ?_) (fun hb0 => ?_)
  · skip
    have hcc : (c || decide (0 < m)) = true := by simpa using hb0
    refine awp_skip ?_
    refine aend_then ?_
    refine awp_seq ?_
    refine awp_block ?_
    refine awp_seq ?_
    refine awp_region ?_
    refine sq rfl rfl hn rfl (q_move rfl rfl) ?_
    refine sq rfl rfl hn rfl (q_rem rfl rfl rfl (r := ((m % 10 : Nat) : Int)) (by omega) (modN (a := m) (b := 10) (by omega))) ?_
    refine sq rfl rfl hn rfl (q_add rfl rfl rfl (r := ((48 + m % 10 : Nat) : Int)) (i64w (by omega) (by omega))) ?_
    refine sq rfl rfl hn rfl (q_conv rfl rfl Tryz.underlying3 Tryz.underlying5 (r := (((UInt8.ofNat (48 + m % 10)).toNat : Nat) : Int)) (u8n (by omega))) ?_
    refine stepW (s_buildSlice rfl rfl rfl (nb hn rfl) Tryz.underlying167 sz5 zr5 rfl rfl rfl (show _ = [.d (.int .u8 0)] from by kernel_rfl) (by kernel_rfl) rfl fill_nat1 rfl rfl rfl) fun _ => ?_
    refine sq rfl rfl hn rfl (q_strOf (l := [UInt8.ofNat (48 + m % 10)]) rfl rfl Tryz.underlying167 Tryz.underlying5 Tryz.underlying9 (by simp) seesF0) ?_
    refine sq rfl rfl hn rfl (q_move rfl rfl) ?_
    refine sq rfl rfl hn rfl (q_addS rfl rfl rfl (by simp only [List.length_append, List.length_cons, List.length_nil]; omega) rfl) ?_
    refine sq rfl rfl hn rfl (q_assign rfl rfl) ?_
    refine run_nil ?_
    refine aend_then ?_
    refine awp_region ?_
    refine sq rfl rfl hn rfl (q_move rfl rfl) ?_
    refine sq rfl rfl hn rfl (q_quo rfl rfl rfl (r := ((m / 10 : Nat) : Int)) (by omega) (quoN (a := m) (b := 10) (by omega) (by omega))) ?_
    refine sq rfl rfl hn rfl (q_assign rfl rfl) ?_
    refine run_nil ?_
    refine aend_block ?_
    refine aend_then ?_
    refine awp_region ?_
    refine sq rfl rfl hn rfl (q_assign rfl rfl) ?_
    refine run_nil ?_
    exact aend_round_on ⟨(false, m / 10, [UInt8.ofNat (48 + m % 10)] ++ a), by simp only; omega, by simp only; rw [rest_step hcc, ha]⟩ ⟨.inl rfl, .inl rfl, .inl rfl, holdT_anys _⟩ trivial (by cases c <;> simp at hcc ⊢ <;> omega) (by repeat (first | exact kr _ | refine kc rfl ?_)) (by repeat (first | exact kr _ | refine kc rfl ?_))
  · skip
    have hcc : (c || decide (0 < m)) = false := by simpa using hb0
    have e1 : a = Lib.decDigits n := by rw [← ha]; unfold restD; rw [hcc]; rfl
    rw [← e1]
    refine awp_exit ?_
    refine aend_then_exit ?_
    refine aend_then_exit ?_
    refine aend_block_exit ?_
    refine aend_then ?_
    refine awp_seq ?_
    refine awp_region ?_
    refine sq rfl rfl hn rfl (q_move rfl rfl) ?_
    refine sq rfl rfl hn rfl (q_assign rfl rfl) ?_
    refine run_nil ?_
    refine aend_then ?_
    refine awp_ret ?_
    exact ret_1 (.inl rfl) hl rfl (.tmp rfl)
theorem Says_ok (b : Brd) (t : List UInt8) (l : List Sal) (h0 : checkT b = 0) (h5 : t.length ≤ 4294967000) : PureAt Tryz.prog 39 [brdD b, strD t, salsD l] (.bool (saysB b t l)) := by
  refine PureAt.of_awp Tryz.func39 rfl (by kernel_rfl) (Nat.le_of_ble_eq_true rfl) fun Γ hn hl => ?_
  have hn4 := (valid_of h0).n4
  obtain ⟨hpo, hl8⟩ := read_prts (b := b) (s := t)
  refine awp_seq ?_
  refine awp_region ?_
  refine stepW (s_box 3 rfl rfl rfl (nb hn rfl) rfl rfl) fun b3 => ?_
  refine sq rfl rfl hn rfl (q_assign rfl rfl) ?_
  refine run_nil ?_
  refine aend_then ?_
  refine awp_seq ?_
  refine awp_region ?_
  refine sq rfl rfl hn rfl (q_loadAd rfl rfl (id := 3) rfl Tryz.underlying24 rfl sz24 rfl rfl sees0) ?_
  refine sq rfl rfl hn rfl (q_move rfl rfl) ?_
  refine stepW (s_call [] (fun _ => (by have h := refRead_ok b t (by omega) h5; rw [ref_read h0] at h; exact h)) rfl (guard_none rfl) rfl (nb hn rfl) (fun _ => trivial) rfl rfl (.refl _)) fun _ => ?_
  refine sq rfl rfl hn rfl (q_move rfl rfl) ?_
  refine sq rfl rfl hn rfl (q_extractd rfl rfl rfl) ?_
  refine sq rfl rfl hn rfl (q_extractd rfl rfl rfl) ?_
  refine sq rfl rfl hn rfl (q_assign rfl rfl) ?_
  refine sq rfl rfl hn rfl (q_assign rfl rfl) ?_
  refine run_nil ?_
  refine aend_then ?_
  refine awp_seq ?_
  refine awp_seq ?_
  refine awp_region ?_
  refine sq rfl rfl hn rfl (q_move rfl rfl) ?_
  refine sq rfl rfl hn rfl (q_neq rfl rfl rfl) ?_
  refine sq rfl rfl hn rfl (q_move rfl rfl) ?_
  refine stepG [] (guard_some rfl rfl rfl) rfl (nb hn rfl) (fun hc => trivial) (fun hc => q_move rfl rfl) ?_
  refine stepG [(19, _)] (guard_some rfl rfl rfl) rfl (nb hn rfl) (fun hc => ⟨⟨_, rfl, hc⟩, trivial⟩) (fun hc => q_len rfl rfl Tryz.underlying35) ?_
  refine stepG [] (guard_some rfl rfl rfl) rfl (nb hn rfl) (fun hc => trivial) (fun hc => q_move rfl rfl) ?_
  refine stepG [(21, _)] (guard_some rfl rfl rfl) rfl (nb hn rfl) (fun hc => ⟨⟨_, rfl, hc⟩, trivial⟩) (fun hc => q_len rfl rfl Tryz.underlying70) ?_
  refine stepG [(20, _), (22, _)] (guard_some rfl rfl rfl) rfl (nb hn rfl) (fun hc => ⟨⟨_, rfl, hc⟩, ⟨_, rfl, hc⟩, trivial⟩) (fun hc => q_neq rfl rfl rfl) ?_
  refine sq rfl rfl hn rfl (q_or rfl rfl rfl (by intro hB; first | (rw [hB]; rfl) | (rw [hB, hc]; rfl) | simp_all)) ?_
  refine run_nil ?_
  refine aend_then ?_
  refine awp_cond rfl (fun hb0 => ?_) (fun hb0 => ?_)
  · skip
    have hne : (readI b t).2 ≠ 0 ∨ (readI b t).1.length ≠ l.length := by (by_cases e : (readI b t).2 = 0; (right; have h := hb0; simp [e] at h; omega); exact .inl e)
    have e1 : saysB b t l = false := by unfold saysB; rcases hne with h | h; (rw [show ((readI b t).2 == 0) = false by simpa using h]; rfl); (rw [says_no h, Bool.and_false])
    rw [e1]
    refine awp_seq ?_
    refine awp_region ?_
    refine sq rfl rfl hn rfl (q_assign rfl rfl) ?_
    refine run_nil ?_
    refine aend_then ?_
    refine awp_ret ?_
    refine aend_then_ret ?_
    exact ret_1 (.inl rfl) hl rfl (.tmp rfl)
  · skip
    obtain ⟨hz, hlen⟩ : (readI b t).2 = 0 ∧ (readI b t).1.length = l.length := by have h := hb0; (by_cases e : (readI b t).2 = 0; (refine ⟨e, ?_⟩; simp [e] at h; omega); simp [e] at h)
    have e0 : saysB b t l = sayL (readI b t).1 l := by unfold saysB; rw [hz]; rfl
    rw [e0]
    refine awp_skip ?_
    refine aend_then ?_
    refine awp_seq ?_
    refine awp_seq ?_
    refine awp_region ?_
    refine sq rfl rfl hn rfl (q_assign rfl rfl) ?_
    refine run_nil ?_
    refine aend_then ?_
    refine awp_block ?_
    refine awp_loop_on (ι := {i : Nat // i ≤ l.length ∧ sayL ((readI b t).1.drop i) (l.drop i) = sayL (readI b t).1 l}) (fun x => (9, true, .d (.int .i64 (x.1 : Nat))) :: anys [25, 26, 27, 28, 31, 32, 33, 34, 35, 36, 37, 38, 39, 40, 41, 42, 43, 44, 45, 46, 47, 48, 49, 50, 51, 52, 53, 54, 55, 56, 57, 58, 59, 60, 61, 62, 63, 64, 65, 66, 67, 68, 69, 70, 71, 72, 73, 74, 75, 76, 77, 78, 79, 80, 81, 82, 83, 84, 85, 86, 29, 30]) (fun x => []) (fun x => l.length - x.1) ⟨0, Nat.zero_le _, rfl⟩ ⟨.inl rfl, holdT_anys _⟩ trivial ?_
    rintro ⟨i, hi, hgo⟩
    dsimp only
    refine awp_seq ?_
    refine awp_seq ?_
    refine awp_region ?_
    refine sq rfl rfl hn rfl (q_move rfl rfl) ?_
    refine sq rfl rfl hn rfl (q_move rfl rfl) ?_
    refine sq rfl rfl hn rfl (q_len rfl rfl Tryz.underlying70) ?_
    refine sq rfl rfl hn rfl (q_lss rfl rfl rfl) ?_
    refine run_nil ?_
    refine aend_then ?_
    refine awp_cond rfl (fun hb1 => ?_) (fun hb1 => ?_)
    · skip
      have hil : i < l.length := by simp at hb1; omega
      obtain ⟨s, hs⟩ := ex_get hil
      obtain ⟨p, hp⟩ := ex_get (show i < (readI b t).1.length by omega)
      refine awp_skip ?_
      refine aend_then ?_
      refine awp_seq ?_
      refine awp_block ?_
      refine awp_seq ?_
      refine d_start (W := fun b => True) fmo ?_
      refine d1q (i := 0) rfl (by kernel_rfl) (fun _ _ _ _ h => h) rfl rfl hn rfl (q_move rfl rfl) ?_
      refine d1q (i := 1) rfl (by kernel_rfl) (fun _ _ _ _ h => h) rfl rfl hn rfl (q_move rfl rfl) ?_
      refine d1q (i := 2) rfl (by kernel_rfl) (fun _ _ _ _ h => h) rfl rfl hn rfl (q_index (i := i) rfl rfl rfl Tryz.underlying35 sz43 rfl (mget hp)) ?_
      refine d1q (i := 3) rfl (by kernel_rfl) (fun _ _ _ _ h => h) rfl rfl hn rfl (q_fieldAddrp rfl rfl Tryz.underlying43 rfl sz3 rfl) ?_
      refine d1q (i := 4) rfl (by kernel_rfl) (fun _ _ _ _ h => h) rfl rfl hn rfl (q_loadp rfl rfl Tryz.underlying3 rfl seesFA) ?_
      refine d1q (i := 5) rfl (by kernel_rfl) (fun _ _ _ _ h => h) rfl rfl hn rfl (q_move rfl rfl) ?_
      refine d1q (i := 6) rfl (by kernel_rfl) (fun _ _ _ _ h => h) rfl rfl hn rfl (q_move rfl rfl) ?_
      refine d1q (i := 7) rfl (by kernel_rfl) (fun _ _ _ _ h => h) rfl rfl hn rfl (q_index (i := i) rfl rfl rfl Tryz.underlying70 sz91 rfl (mget hs)) ?_
      refine d1q (i := 8) rfl (by kernel_rfl) (fun _ _ _ _ h => h) rfl rfl hn rfl (q_fieldAddrp rfl rfl Tryz.underlying91 rfl sz3 rfl) ?_
      refine d1q (i := 9) rfl (by kernel_rfl) (fun _ _ _ _ h => h) rfl rfl hn rfl (q_loadp rfl rfl Tryz.underlying3 rfl seesFA) ?_
      refine d1q (i := 10) rfl (by kernel_rfl) (fun _ _ _ _ h => h) rfl rfl hn rfl (q_neq rfl rfl rfl) ?_
      refine d1q (i := 11) rfl (by kernel_rfl) (fun _ _ _ _ h => h) rfl rfl hn rfl (q_move rfl rfl) ?_
      refine d1g (i := 12) [] rfl (by kernel_rfl) (fun _ _ _ _ h => h) (guard_some rfl rfl rfl) rfl hn rfl (fun hc => trivial) (fun hc => q_move rfl rfl) ?_
      refine d1g (i := 13) [] rfl (by kernel_rfl) (fun _ _ _ _ h => h) (guard_some rfl rfl rfl) rfl hn rfl (fun hc => trivial) (fun hc => q_move rfl rfl) ?_
      refine d1g (i := 14) [(43, _), (44, _)] rfl (by kernel_rfl) (fun _ _ _ _ h => h) (guard_some rfl rfl rfl) rfl hn rfl (fun hc => ⟨⟨_, rfl, hc⟩, ⟨_, rfl, hc⟩, trivial⟩) (fun hc => q_index (i := i) rfl rfl rfl Tryz.underlying35 sz43 rfl (mget hp)) ?_
      refine d1g (i := 15) [(45, _)] rfl (by kernel_rfl) (fun _ _ _ _ h => h) (guard_some rfl rfl rfl) rfl hn rfl (fun hc => ⟨⟨_, rfl, hc⟩, trivial⟩) (fun hc => q_fieldAddrp rfl rfl Tryz.underlying43 rfl sz41 rfl) ?_
      refine d1g (i := 16) [(46, _)] rfl (by kernel_rfl) (fun _ _ _ _ h => h) (guard_some rfl rfl rfl) rfl hn rfl (fun hc => ⟨⟨_, rfl, hc⟩, trivial⟩) (fun hc => q_loadpA rfl rfl Tryz.underlying41 rfl sz41 rfl rfl seesFA) ?_
      refine d1g (i := 17) [] rfl (by kernel_rfl) (fun _ _ _ _ h => h) (guard_some rfl rfl rfl) rfl hn rfl (fun hc => trivial) (fun hc => q_move rfl rfl) ?_
      refine d1g (i := 18) [] rfl (by kernel_rfl) (fun _ _ _ _ h => h) (guard_some rfl rfl rfl) rfl hn rfl (fun hc => trivial) (fun hc => q_move rfl rfl) ?_
      refine d1g (i := 19) [(48, _), (49, _)] rfl (by kernel_rfl) (fun _ _ _ _ h => h) (guard_some rfl rfl rfl) rfl hn rfl (fun hc => ⟨⟨_, rfl, hc⟩, ⟨_, rfl, hc⟩, trivial⟩) (fun hc => q_index (i := i) rfl rfl rfl Tryz.underlying70 sz91 rfl (mget hs)) ?_
      refine d1g (i := 20) [(50, _)] rfl (by kernel_rfl) (fun _ _ _ _ h => h) (guard_some rfl rfl rfl) rfl hn rfl (fun hc => ⟨⟨_, rfl, hc⟩, trivial⟩) (fun hc => q_fieldAddrp rfl rfl Tryz.underlying91 rfl sz3 rfl) ?_
      refine d1g (i := 21) [(51, _)] rfl (by kernel_rfl) (fun _ _ _ _ h => h) (guard_some rfl rfl rfl) rfl hn rfl (fun hc => ⟨⟨_, rfl, hc⟩, trivial⟩) (fun hc => q_loadp rfl rfl Tryz.underlying3 rfl seesFA) ?_
      refine d1g (i := 22) [] rfl (by kernel_rfl) (fun _ _ _ _ h => h) (guard_some rfl rfl rfl) rfl hn rfl (fun hc => trivial) (fun hc => q_move rfl rfl) ?_
      refine d1g (i := 23) [] rfl (by kernel_rfl) (fun _ _ _ _ h => h) (guard_some rfl rfl rfl) rfl hn rfl (fun hc => trivial) (fun hc => q_move rfl rfl) ?_
      refine d1g (i := 24) [(53, _), (54, _)] rfl (by kernel_rfl) (fun _ _ _ _ h => h) (guard_some rfl rfl rfl) rfl hn rfl (fun hc => ⟨⟨_, rfl, hc⟩, ⟨_, rfl, hc⟩, trivial⟩) (fun hc => q_index (i := i) rfl rfl rfl Tryz.underlying70 sz91 rfl (mget hs)) ?_
      refine d1g (i := 25) [(55, _)] rfl (by kernel_rfl) (fun _ _ _ _ h => h) (guard_some rfl rfl rfl) rfl hn rfl (fun hc => ⟨⟨_, rfl, hc⟩, trivial⟩) (fun hc => q_fieldAddrp rfl rfl Tryz.underlying91 rfl sz3 rfl) ?_
      refine d1g (i := 26) [(56, _)] rfl (by kernel_rfl) (fun _ _ _ _ h => h) (guard_some rfl rfl rfl) rfl hn rfl (fun hc => ⟨⟨_, rfl, hc⟩, trivial⟩) (fun hc => q_loadp rfl rfl Tryz.underlying3 rfl seesFA) ?_
      refine d1g (i := 27) [(52, _), (57, _)] rfl (by kernel_rfl) (fun _ _ _ _ h => h) (guard_some rfl rfl rfl) rfl hn rfl (fun hc => ⟨⟨_, rfl, hc⟩, ⟨_, rfl, hc⟩, trivial⟩) (fun hc => q_buildd rfl bt41 rfl rfl rfl rfl rfl) ?_
      refine d1g (i := 28) [(47, _), (58, _)] rfl (by kernel_rfl) (fun _ _ _ _ h => h) (guard_some rfl rfl rfl) rfl hn rfl (fun hc => ⟨⟨_, rfl, hc⟩, ⟨_, rfl, hc⟩, trivial⟩) (fun hc => q_neq41 rfl rfl rfl) ?_
      refine d1q (i := 29) rfl (by kernel_rfl) (fun _ _ _ _ h => h) rfl rfl hn rfl (q_or rfl rfl rfl (by intro hB; first | (rw [hB]; rfl) | (rw [hB, hc]; rfl) | simp_all)) ?_
      refine d1q (i := 30) rfl (by kernel_rfl) (fun _ _ _ _ h => h) rfl rfl hn rfl (q_move rfl rfl) ?_
      refine d1g (i := 31) [] rfl (by kernel_rfl) (fun _ _ _ _ h => h) (guard_some rfl rfl rfl) rfl hn rfl (fun hc => trivial) (fun hc => q_move rfl rfl) ?_
      refine d1g (i := 32) [] rfl (by kernel_rfl) (fun _ _ _ _ h => h) (guard_some rfl rfl rfl) rfl hn rfl (fun hc => trivial) (fun hc => q_move rfl rfl) ?_
      refine d1g (i := 33) [(62, _), (63, _)] rfl (by kernel_rfl) (fun _ _ _ _ h => h) (guard_some rfl rfl rfl) rfl hn rfl (fun hc => ⟨⟨_, rfl, hc⟩, ⟨_, rfl, hc⟩, trivial⟩) (fun hc => q_index (i := i) rfl rfl rfl Tryz.underlying35 sz43 rfl (mget hp)) ?_
      refine d1g (i := 34) [(64, _)] rfl (by kernel_rfl) (fun _ _ _ _ h => h) (guard_some rfl rfl rfl) rfl hn rfl (fun hc => ⟨⟨_, rfl, hc⟩, trivial⟩) (fun hc => q_fieldAddrp rfl rfl Tryz.underlying43 rfl sz3 rfl) ?_
      refine d1g (i := 35) [(65, _)] rfl (by kernel_rfl) (fun _ _ _ _ h => h) (guard_some rfl rfl rfl) rfl hn rfl (fun hc => ⟨⟨_, rfl, hc⟩, trivial⟩) (fun hc => q_loadp rfl rfl Tryz.underlying3 rfl seesFA) ?_
      refine d1g (i := 36) [] rfl (by kernel_rfl) (fun _ _ _ _ h => h) (guard_some rfl rfl rfl) rfl hn rfl (fun hc => trivial) (fun hc => q_move rfl rfl) ?_
      refine d1g (i := 37) [] rfl (by kernel_rfl) (fun _ _ _ _ h => h) (guard_some rfl rfl rfl) rfl hn rfl (fun hc => trivial) (fun hc => q_move rfl rfl) ?_
      refine d1g (i := 38) [(67, _), (68, _)] rfl (by kernel_rfl) (fun _ _ _ _ h => h) (guard_some rfl rfl rfl) rfl hn rfl (fun hc => ⟨⟨_, rfl, hc⟩, ⟨_, rfl, hc⟩, trivial⟩) (fun hc => q_index (i := i) rfl rfl rfl Tryz.underlying70 sz91 rfl (mget hs)) ?_
      refine d1g (i := 39) [(69, _)] rfl (by kernel_rfl) (fun _ _ _ _ h => h) (guard_some rfl rfl rfl) rfl hn rfl (fun hc => ⟨⟨_, rfl, hc⟩, trivial⟩) (fun hc => q_fieldAddrp rfl rfl Tryz.underlying91 rfl sz3 rfl) ?_
      refine d1g (i := 40) [(70, _)] rfl (by kernel_rfl) (fun _ _ _ _ h => h) (guard_some rfl rfl rfl) rfl hn rfl (fun hc => ⟨⟨_, rfl, hc⟩, trivial⟩) (fun hc => q_loadp rfl rfl Tryz.underlying3 rfl seesFA) ?_
      refine d1g (i := 41) [(66, _), (71, _)] rfl (by kernel_rfl) (fun _ _ _ _ h => h) (guard_some rfl rfl rfl) rfl hn rfl (fun hc => ⟨⟨_, rfl, hc⟩, ⟨_, rfl, hc⟩, trivial⟩) (fun hc => q_neq rfl rfl rfl) ?_
      refine d1q (i := 42) rfl (by kernel_rfl) (fun _ _ _ _ h => h) rfl rfl hn rfl (q_or rfl rfl rfl (by intro hB; first | (rw [hB]; rfl) | (rw [hB, hc]; rfl) | simp_all)) ?_
      refine d1q (i := 43) rfl (by kernel_rfl) (fun _ _ _ _ h => h) rfl rfl hn rfl (q_move rfl rfl) ?_
      refine d1g (i := 44) [] rfl (by kernel_rfl) (fun _ _ _ _ h => h) (guard_some rfl rfl rfl) rfl hn rfl (fun hc => trivial) (fun hc => q_move rfl rfl) ?_
      refine d1g (i := 45) [] rfl (by kernel_rfl) (fun _ _ _ _ h => h) (guard_some rfl rfl rfl) rfl hn rfl (fun hc => trivial) (fun hc => q_move rfl rfl) ?_
      refine d1g (i := 46) [(75, _), (76, _)] rfl (by kernel_rfl) (fun _ _ _ _ h => h) (guard_some rfl rfl rfl) rfl hn rfl (fun hc => ⟨⟨_, rfl, hc⟩, ⟨_, rfl, hc⟩, trivial⟩) (fun hc => q_index (i := i) rfl rfl rfl Tryz.underlying35 sz43 rfl (mget hp)) ?_
      refine d1g (i := 47) [(77, _)] rfl (by kernel_rfl) (fun _ _ _ _ h => h) (guard_some rfl rfl rfl) rfl hn rfl (fun hc => ⟨⟨_, rfl, hc⟩, trivial⟩) (fun hc => q_loadpA rfl rfl Tryz.underlying43 rfl sz43 rfl rfl seesFA) ?_
      refine d1g (i := 48) [] rfl (by kernel_rfl) (fun _ _ _ _ h => h) (guard_some rfl rfl rfl) rfl hn rfl (fun hc => trivial) (fun hc => q_move rfl rfl) ?_
      refine d1g (i := 49) [] rfl (by kernel_rfl) (fun _ _ _ _ h => h) (guard_some rfl rfl rfl) rfl hn rfl (fun hc => trivial) (fun hc => q_move rfl rfl) ?_
      refine d1g (i := 50) [(79, _), (80, _)] rfl (by kernel_rfl) (fun _ _ _ _ h => h) (guard_some rfl rfl rfl) rfl hn rfl (fun hc => ⟨⟨_, rfl, hc⟩, ⟨_, rfl, hc⟩, trivial⟩) (fun hc => q_index (i := i) rfl rfl rfl Tryz.underlying70 sz91 rfl (mget hs)) ?_
      refine d1g (i := 51) [(81, _)] rfl (by kernel_rfl) (fun _ _ _ _ h => h) (guard_some rfl rfl rfl) rfl hn rfl (fun hc => ⟨⟨_, rfl, hc⟩, trivial⟩) (fun hc => q_fieldAddrp rfl rfl Tryz.underlying91 rfl sz3 rfl) ?_
      refine d1g (i := 52) [(82, _)] rfl (by kernel_rfl) (fun _ _ _ _ h => h) (guard_some rfl rfl rfl) rfl hn rfl (fun hc => ⟨⟨_, rfl, hc⟩, trivial⟩) (fun hc => q_loadp rfl rfl Tryz.underlying3 rfl seesFA) ?_
      refine d1_of_d2 ?_
      refine d2_one (i := 53) (by kernel_rfl) rfl (s_call [(78, _), (83, _)] (fun hc => Fits_ok p 0 s.price 0 (by omega) (by omega)) rfl (guard_some rfl rfl rfl) rfl (nb hn rfl) (fun hc => ⟨⟨_, rfl, hc⟩, ⟨_, rfl, hc⟩, trivial⟩) rfl rfl (.refl _)) fun _ => ?_
      refine d2_of_d1 ?_
      refine d1g (i := 54) [(84, _)] rfl (by kernel_rfl) (fun _ _ _ _ h => h) (guard_some rfl rfl rfl) rfl hn rfl (fun hc => ⟨⟨_, rfl, hc⟩, trivial⟩) (fun hc => q_not rfl rfl) ?_
      refine d1q (i := 55) rfl (by kernel_rfl) (fun _ _ _ _ h => h) rfl rfl hn rfl (q_or rfl rfl rfl (by intro hB; first | (rw [hB]; rfl) | (rw [hB, hc]; rfl) | simp_all)) ?_
      refine d1_of_d2 ?_
      refine d2_done (by kernel_rfl) ?_
      refine aend_then ?_
      refine awp_cond rfl (fun hb2 => ?_) (fun hb2 => ?_)
      · skip
        have hsp : sayP p s = false := by unfold sayP; have h := hb2; revert h; cases h1 : p.stock == s.stock <;> cases h2 : p.nlo == s.number <;> cases h3 : p.nhi == s.number <;> cases h4 : p.minute == s.minute <;> cases h5 : refFits p 0 s.price 0 <;> simp [bne, h1, h4]
        have e1 : sayL (readI b t).1 l = false := by rw [← hgo, says_go hp hs, hsp]; rfl
        rw [e1]
        refine awp_seq ?_
        refine awp_region ?_
        refine sq rfl rfl hn rfl (q_assign rfl rfl) ?_
        refine run_nil ?_
        refine aend_then ?_
        refine awp_ret ?_
        refine aend_block_ret ?_
        refine aend_then_ret ?_
        refine aend_then_ret ?_
        refine aend_block_ret ?_
        refine aend_then_ret ?_
        exact ret_1 (.inl rfl) hl rfl (.tmp rfl)
      · skip
        have hsp : sayP p s = true := by unfold sayP; have h := hb2; revert h; cases h1 : p.stock == s.stock <;> cases h2 : p.nlo == s.number <;> cases h3 : p.nhi == s.number <;> cases h4 : p.minute == s.minute <;> cases h5 : refFits p 0 s.price 0 <;> simp [bne, h1, h4]
        refine awp_skip ?_
        refine aend_block ?_
        refine aend_then ?_
        refine awp_region ?_
        refine sq rfl rfl hn rfl (q_move rfl rfl) ?_
        refine sq rfl rfl hn rfl (q_add rfl rfl rfl (r := ((i + 1 : Nat) : Int)) (i64w (by omega) (by omega))) ?_
        refine sq rfl rfl hn rfl (q_assign rfl rfl) ?_
        refine run_nil ?_
        exact aend_round_on ⟨i + 1, by omega, by rw [← hgo, says_go hp hs, hsp]; rfl⟩ ⟨.inl rfl, holdT_anys _⟩ trivial (by simp only; omega) (by repeat (first | exact kr _ | refine kc rfl ?_)) (by repeat (first | exact kr _ | refine kc rfl ?_))
    · skip
      obtain rfl : i = l.length := by simp at hb1; omega
      have e1 : sayL (readI b t).1 l = true := by rw [← hgo, List.drop_length, show (readI b t).1.drop l.length = [] from List.drop_eq_nil_of_le (by omega)]; rfl
      rw [e1]
      refine awp_exit ?_
      refine aend_then_exit ?_
      refine aend_then_exit ?_
      refine aend_block_exit ?_
      refine aend_then ?_
      refine awp_seq ?_
      refine awp_region ?_
      refine sq rfl rfl hn rfl (q_assign rfl rfl) ?_
      refine run_nil ?_
      refine aend_then ?_
      refine awp_ret ?_
      exact ret_1 (.inl rfl) hl rfl (.tmp rfl)
theorem SalesFault_ok (b : Brd) (l : List Sal) (hbl : b.stocks.length ≤ 1000) : PureAt Tryz.prog 38 [brdD b, salsD l] (.int .i64 (sfI b l)) := by
  refine PureAt.of_awp Tryz.func38 rfl (by kernel_rfl) (Nat.le_of_ble_eq_true rfl) fun Γ hn hl => ?_
  refine awp_seq ?_
  refine awp_region ?_
  refine stepW (s_box 2 rfl rfl rfl (nb hn rfl) rfl rfl) fun b2 => ?_
  refine sq rfl rfl hn rfl (q_assign rfl rfl) ?_
  refine run_nil ?_
  refine aend_then ?_
  refine awp_seq ?_
  refine awp_seq ?_
  refine awp_region ?_
  refine sq rfl rfl hn rfl (q_move rfl rfl) ?_
  refine sq rfl rfl hn rfl (q_len rfl rfl Tryz.underlying70) ?_
  refine sq rfl rfl hn rfl (q_gtr rfl rfl rfl) ?_
  refine run_nil ?_
  refine aend_then ?_
  refine awp_cond rfl (fun hb0 => ?_) (fun hb0 => ?_)
  · skip
    have q0 : decide (8 < (l.length : Int)) = true := by simp at hb0 ⊢; omega
    have e1 : sfI b l = 3 := by unfold sfI; rw [q0]; rfl
    rw [e1]
    refine awp_seq ?_
    refine awp_region ?_
    refine sq rfl rfl hn rfl (q_assign rfl rfl) ?_
    refine run_nil ?_
    refine aend_then ?_
    refine awp_ret ?_
    refine aend_then_ret ?_
    exact ret_1 (.inl rfl) hl rfl (.tmp rfl)
  · skip
    have q0 : decide (8 < (l.length : Int)) = false := by simp at hb0 ⊢; omega
    have hl8 : l.length ≤ 8 := by simp at q0; omega
    have e0 : sfI b l = bif okAll b l 0 then 0 else 2 := by unfold sfI; rw [q0]; rfl
    rw [e0]
    refine awp_skip ?_
    refine aend_then ?_
    refine awp_seq ?_
    refine awp_seq ?_
    refine awp_region ?_
    refine sq rfl rfl hn rfl (q_assign rfl rfl) ?_
    refine run_nil ?_
    refine aend_then ?_
    refine awp_block ?_
    refine awp_loop_on (ι := {i : Nat // i ≤ l.length ∧ okAll b (l.drop i) (bmAt l i) = okAll b l 0 ∧ 0 ≤ bmAt l i}) (fun x => (5, true, .d (.int .i64 (x.1 : Nat))) :: anys [10, 11, 12, 13, 16, 17, 18, 19, 6, 20, 21, 22, 23, 24, 25, 26, 27, 28, 29, 30, 31, 32, 33, 34, 35, 36, 37, 38, 39, 40, 41, 42, 43, 44, 45, 46, 47, 48, 49, 50, 51, 52, 53, 54, 55, 56, 57, 58, 59, 60, 14, 15]) (fun x => gones [6]) (fun x => l.length - x.1) ⟨0, Nat.zero_le _, rfl, Int.le_refl _⟩ ⟨.inl rfl, holdT_anys _⟩ (holdR_gones _) ?_
    rintro ⟨i, hi, hgo, hb0⟩
    dsimp only
    refine awp_seq ?_
    refine awp_seq ?_
    refine awp_region ?_
    refine sq rfl rfl hn rfl (q_move rfl rfl) ?_
    refine sq rfl rfl hn rfl (q_move rfl rfl) ?_
    refine sq rfl rfl hn rfl (q_len rfl rfl Tryz.underlying70) ?_
    refine sq rfl rfl hn rfl (q_lss rfl rfl rfl) ?_
    refine run_nil ?_
    refine aend_then ?_
    refine awp_cond rfl (fun hb1 => ?_) (fun hb1 => ?_)
    · skip
      have hil : i < l.length := by simp at hb1; omega
      obtain ⟨s, hs⟩ := ex_get hil
      obtain ⟨s1, hs1⟩ := ex_get (show i - 1 < l.length by omega)
      have hwi := bm_within (x := s.minute) (m := bmAt l i) (p := s1.minute) (i := i) (fun h => by subst h; rfl) (fun h => by obtain ⟨j, rfl⟩ : ∃ j, i = j + 1 := ⟨i - 1, by omega⟩; exact congrArg Sal.minute (getD_of hs1)) hb0
      refine awp_skip ?_
      refine aend_then ?_
      refine awp_seq ?_
      refine awp_block ?_
      refine awp_seq ?_
      refine awp_region ?_
      refine sq rfl rfl hn rfl (q_move rfl rfl) ?_
      refine sq rfl rfl hn rfl (q_move rfl rfl) ?_
      refine sq rfl rfl hn rfl (q_index (i := i) rfl rfl rfl Tryz.underlying70 sz91 rfl (mget hs)) ?_
      refine sq rfl rfl hn rfl (q_loadpA rfl rfl Tryz.underlying91 rfl sz91 rfl rfl seesF0) ?_
      refine stepW (s_alloc 6 rfl rfl rfl (nb hn rfl) zr91 rfl rfl) fun b6 => ?_
      refine stepW (s_store rfl rfl rfl rfl rfl rfl (id := 6) rfl sz91 rfl (Nat.le_of_ble_eq_true rfl) rfl trivial) fun _ => ?_
      refine run_nil ?_
      refine aend_then ?_
      refine awp_seq ?_
      refine d_start (W := fun b => b ≠ b2) fmo ?_
      refine d1q (i := 0) rfl (by kernel_rfl) (fun _ _ _ _ h => h) rfl rfl hn rfl (q_fieldAddr rfl rfl Tryz.underlying91 rfl sz3) ?_
      refine d1q (i := 2) rfl (by kernel_rfl) (fun _ _ _ _ h => h) rfl rfl hn rfl (q_fieldAddr rfl rfl Tryz.underlying24 rfl sz22) ?_
      refine d1q (i := 3) rfl (by kernel_rfl) (fun _ _ _ _ h => h) rfl rfl hn rfl (q_load rfl rfl (id := 2) rfl Tryz.underlying22 rfl rfl (seesA (by simp))) ?_
      refine d1q (i := 4) rfl (by kernel_rfl) (fun _ _ _ _ h => h) rfl rfl hn rfl (q_len rfl rfl Tryz.underlying22) ?_
      refine d1q (i := 5) rfl (by kernel_rfl) (fun _ _ _ _ h => h) rfl rfl hn rfl (q_sub rfl rfl rfl (r := (b.stocks.length : Int) - 1) (by rw [List.length_map]; exact i64w (by omega) rfl)) ?_
      refine d1_of_d2 ?_
      refine d2_one (i := 1) (by kernel_rfl) rfl (quiet_wg _ [] (guard_none rfl) rfl (nb hn rfl) (fun _ => trivial) (fun _ => q_load rfl rfl (id := 6) rfl Tryz.underlying3 rfl rfl sees0)) fun _ => ?_
      refine d2_of_d1 ?_
      refine d1_of_d2 ?_
      refine d2_one (i := 6) (by kernel_rfl) rfl (s_call [] (fun _ => In_ok _ _ _) rfl (guard_none rfl) rfl (nb hn rfl) (fun _ => trivial) rfl rfl (.refl _)) fun _ => ?_
      refine d2_of_d1 ?_
      refine d1q (i := 7) rfl (by kernel_rfl) (fun _ _ _ _ h => h) rfl rfl hn rfl (q_not rfl rfl) ?_
      refine d1q (i := 8) rfl (by kernel_rfl) (fun _ _ _ _ h => h) rfl rfl hn rfl (q_move rfl rfl) ?_
      refine d1g (i := 9) [] rfl (by kernel_rfl) (fun _ _ _ _ h => h) (guard_some rfl rfl rfl) rfl hn rfl (fun hc => trivial) (fun hc => q_fieldAddr rfl rfl Tryz.underlying91 rfl sz3) ?_
      refine d1_of_d2 ?_
      refine d2_one (i := 10) (by kernel_rfl) rfl (quiet_wg _ [(29, _)] (guard_some rfl rfl rfl) rfl (nb hn rfl) (fun hc => ⟨⟨_, rfl, hc⟩, trivial⟩) (fun hc => q_load rfl rfl (id := 6) rfl Tryz.underlying3 rfl rfl sees0)) fun _ => ?_
      refine d2_of_d1 ?_
      refine d1_of_d2 ?_
      refine d2_one (i := 11) (by kernel_rfl) rfl (s_call [(30, _)] (fun hc => In_ok _ _ _) rfl (guard_some rfl rfl rfl) rfl (nb hn rfl) (fun hc => ⟨⟨_, rfl, hc⟩, trivial⟩) rfl rfl (.refl _)) fun _ => ?_
      refine d2_of_d1 ?_
      refine d1g (i := 12) [(31, _)] rfl (by kernel_rfl) (fun _ _ _ _ h => h) (guard_some rfl rfl rfl) rfl hn rfl (fun hc => ⟨⟨_, rfl, hc⟩, trivial⟩) (fun hc => q_not rfl rfl) ?_
      refine d1q (i := 13) rfl (by kernel_rfl) (fun _ _ _ _ h => h) rfl rfl hn rfl (q_or rfl rfl rfl (by intro hB; first | (rw [hB]; rfl) | (rw [hB, hc]; rfl) | simp_all)) ?_
      refine d1q (i := 14) rfl (by kernel_rfl) (fun _ _ _ _ h => h) rfl rfl hn rfl (q_move rfl rfl) ?_
      refine d1g (i := 15) [] rfl (by kernel_rfl) (fun _ _ _ _ h => h) (guard_some rfl rfl rfl) rfl hn rfl (fun hc => trivial) (fun hc => q_fieldAddr rfl rfl Tryz.underlying91 rfl sz3) ?_
      refine d1_of_d2 ?_
      refine d2_one (i := 16) (by kernel_rfl) rfl (quiet_wg _ [(35, _)] (guard_some rfl rfl rfl) rfl (nb hn rfl) (fun hc => ⟨⟨_, rfl, hc⟩, trivial⟩) (fun hc => q_load rfl rfl (id := 6) rfl Tryz.underlying3 rfl rfl sees0)) fun _ => ?_
      refine d2_of_d1 ?_
      refine d1_of_d2 ?_
      refine d2_one (i := 17) (by kernel_rfl) rfl (s_call [(36, _)] (fun hc => In_ok _ _ _) rfl (guard_some rfl rfl rfl) rfl (nb hn rfl) (fun hc => ⟨⟨_, rfl, hc⟩, trivial⟩) rfl rfl (.refl _)) fun _ => ?_
      refine d2_of_d1 ?_
      refine d1g (i := 18) [(37, _)] rfl (by kernel_rfl) (fun _ _ _ _ h => h) (guard_some rfl rfl rfl) rfl hn rfl (fun hc => ⟨⟨_, rfl, hc⟩, trivial⟩) (fun hc => q_not rfl rfl) ?_
      refine d1q (i := 19) rfl (by kernel_rfl) (fun _ _ _ _ h => h) rfl rfl hn rfl (q_or rfl rfl rfl (by intro hB; first | (rw [hB]; rfl) | (rw [hB, hc]; rfl) | simp_all)) ?_
      refine d1q (i := 20) rfl (by kernel_rfl) (fun _ _ _ _ h => h) rfl rfl hn rfl (q_move rfl rfl) ?_
      refine d1g (i := 21) [] rfl (by kernel_rfl) (fun _ _ _ _ h => h) (guard_some rfl rfl rfl) rfl hn rfl (fun hc => trivial) (fun hc => q_fieldAddr rfl rfl Tryz.underlying91 rfl sz3) ?_
      refine d1_of_d2 ?_
      refine d2_one (i := 22) (by kernel_rfl) rfl (quiet_wg _ [(41, _)] (guard_some rfl rfl rfl) rfl (nb hn rfl) (fun hc => ⟨⟨_, rfl, hc⟩, trivial⟩) (fun hc => q_load rfl rfl (id := 6) rfl Tryz.underlying3 rfl rfl sees0)) fun _ => ?_
      refine d2_of_d1 ?_
      refine d1_of_d2 ?_
      refine d2_one (i := 23) (by kernel_rfl) rfl (s_call [(42, _)] (fun hc => In_ok _ _ _) rfl (guard_some rfl rfl rfl) rfl (nb hn rfl) (fun hc => ⟨⟨_, rfl, hc⟩, trivial⟩) rfl rfl (.refl _)) fun _ => ?_
      refine d2_of_d1 ?_
      refine d1g (i := 24) [(43, _)] rfl (by kernel_rfl) (fun _ _ _ _ h => h) (guard_some rfl rfl rfl) rfl hn rfl (fun hc => ⟨⟨_, rfl, hc⟩, trivial⟩) (fun hc => q_not rfl rfl) ?_
      refine d1q (i := 25) rfl (by kernel_rfl) (fun _ _ _ _ h => h) rfl rfl hn rfl (q_or rfl rfl rfl (by intro hB; first | (rw [hB]; rfl) | (rw [hB, hc]; rfl) | simp_all)) ?_
      refine d1q (i := 26) rfl (by kernel_rfl) (fun _ _ _ _ h => h) rfl rfl hn rfl (q_move rfl rfl) ?_
      refine d1g (i := 27) [] rfl (by kernel_rfl) (fun _ _ _ _ h => h) (guard_some rfl rfl rfl) rfl hn rfl (fun hc => trivial) (fun hc => q_move rfl rfl) ?_
      refine d1g (i := 28) [(47, _)] rfl (by kernel_rfl) (fun _ _ _ _ h => h) (guard_some rfl rfl rfl) rfl hn rfl (fun hc => ⟨⟨_, rfl, hc⟩, trivial⟩) (fun hc => q_gtr rfl rfl rfl) ?_
      refine d1g (i := 29) [(48, _)] rfl (by kernel_rfl) (fun _ _ _ _ h => h) (guard_some rfl rfl rfl) rfl hn rfl (fun hc => ⟨⟨_, rfl, hc⟩, trivial⟩) (fun hc => q_move rfl rfl) ?_
      refine d1g (i := 30) [] rfl (by kernel_rfl) (fun _ _ _ _ h => h) (guard_some rfl rfl rfl) rfl hn rfl (fun hc => trivial) (fun hc => q_fieldAddr rfl rfl Tryz.underlying91 rfl sz3) ?_
      refine d1g (i := 32) [] rfl (by kernel_rfl) (fun _ _ _ _ h => h) (guard_some rfl rfl rfl) rfl hn rfl (fun hc => trivial) (fun hc => q_move rfl rfl) ?_
      refine d1g (i := 33) [] rfl (by kernel_rfl) (fun _ _ _ _ h => h) (guard_some rfl rfl rfl) rfl hn rfl (fun hc => trivial) (fun hc => q_move rfl rfl) ?_
      refine d1g (i := 34) [(53, _)] rfl (by kernel_rfl) (fun _ _ _ _ h => h) (guard_some rfl rfl rfl) rfl hn rfl (fun hc => ⟨⟨_, rfl, hc⟩, trivial⟩) (fun hc => q_sub rfl rfl rfl (r := ((i - 1 : Nat) : Int)) (i64w (by simp at hc; omega) (by simp at hc; omega))) ?_
      refine d1g (i := 35) [(52, _), (54, _)] rfl (by kernel_rfl) (fun _ _ _ _ h => h) (guard_some rfl rfl rfl) rfl hn rfl (fun hc => ⟨⟨_, rfl, hc⟩, ⟨_, rfl, hc⟩, trivial⟩) (fun hc => q_index (i := i - 1) rfl rfl rfl Tryz.underlying70 sz91 rfl (mget hs1)) ?_
      refine d1g (i := 36) [(55, _)] rfl (by kernel_rfl) (fun _ _ _ _ h => h) (guard_some rfl rfl rfl) rfl hn rfl (fun hc => ⟨⟨_, rfl, hc⟩, trivial⟩) (fun hc => q_fieldAddrp rfl rfl Tryz.underlying91 rfl sz3 rfl) ?_
      refine d1g (i := 37) [(56, _)] rfl (by kernel_rfl) (fun _ _ _ _ h => h) (guard_some rfl rfl rfl) rfl hn rfl (fun hc => ⟨⟨_, rfl, hc⟩, trivial⟩) (fun hc => q_loadp rfl rfl Tryz.underlying3 rfl seesFA) ?_
      refine d1_of_d2 ?_
      refine d2_one (i := 31) (by kernel_rfl) rfl (quiet_wg _ [(50, _)] (guard_some rfl rfl rfl) rfl (nb hn rfl) (fun hc => ⟨⟨_, rfl, hc⟩, trivial⟩) (fun hc => q_load rfl rfl (id := 6) rfl Tryz.underlying3 rfl rfl sees0)) fun _ => ?_
      refine d2_of_d1 ?_
      refine d1g (i := 38) [(51, _), (57, _)] rfl (by kernel_rfl) (fun _ _ _ _ h => h) (guard_some rfl rfl rfl) rfl hn rfl (fun hc => ⟨⟨_, rfl, hc⟩, ⟨_, rfl, hc⟩, trivial⟩) (fun hc => q_lss rfl rfl rfl) ?_
      refine d1g (i := 39) [(49, _)] rfl (by kernel_rfl) (fun _ _ _ _ h => h) (guard_some rfl rfl rfl) rfl hn rfl (fun hc => ⟨⟨_, rfl, hc⟩, trivial⟩) (fun hc => q_and rfl rfl rfl (by intro hB; first | (rw [hB]; rfl) | (rw [hB, hc]; rfl) | simp_all)) ?_
      refine d1q (i := 40) rfl (by kernel_rfl) (fun _ _ _ _ h => h) rfl rfl hn rfl (q_or rfl rfl rfl (by intro hB; first | (rw [hB]; rfl) | (rw [hB, hc]; rfl) | simp_all)) ?_
      refine d1_of_d2 ?_
      refine d2_done (by kernel_rfl) ?_
      refine aend_then ?_
      refine awp_cond rfl (fun hb2 => ?_) (fun hb2 => ?_)
      · skip
        have hok : okSal b s (bmAt l i) = false := by unfold okSal; have h := hb2; rw [hwi]; revert h; cases h1 : withinB s.stock 0 ((b.stocks.length : Int) - 1) <;> cases h2 : withinB s.number 1 99 <;> cases h3 : withinB s.price 1 799 <;> cases h4 : withinB s.minute 0 600 <;> cases h5 : decide ((0 : Int) < (i : Nat)) <;> cases h6 : decide (s.minute < s1.minute) <;> simp
        have e1 : okAll b l 0 = false := by rw [← hgo, okAll_at hs, hok]; rfl
        rw [e1]
        refine awp_seq ?_
        refine awp_region ?_
        refine sq rfl rfl hn rfl (q_assign rfl rfl) ?_
        refine run_nil ?_
        refine aend_then ?_
        refine awp_ret ?_
        refine aend_block_ret ?_
        refine aend_then_ret ?_
        refine aend_then_ret ?_
        refine aend_block_ret ?_
        refine aend_then_ret ?_
        exact ret_1 (.inl rfl) hl rfl (.tmp rfl)
      · skip
        have hok : okSal b s (bmAt l i) = true := by unfold okSal; have h := hb2; rw [hwi]; revert h; cases h1 : withinB s.stock 0 ((b.stocks.length : Int) - 1) <;> cases h2 : withinB s.number 1 99 <;> cases h3 : withinB s.price 1 799 <;> cases h4 : withinB s.minute 0 600 <;> cases h5 : decide ((0 : Int) < (i : Nat)) <;> cases h6 : decide (s.minute < s1.minute) <;> simp
        refine awp_skip ?_
        refine aend_block ?_
        refine aend_then ?_
        refine awp_region ?_
        refine sq rfl rfl hn rfl (q_move rfl rfl) ?_
        refine sq rfl rfl hn rfl (q_add rfl rfl rfl (r := ((i + 1 : Nat) : Int)) (i64w (by omega) (by omega))) ?_
        refine sq rfl rfl hn rfl (q_assign rfl rfl) ?_
        refine run_nil ?_
        exact aend_round_on ⟨i + 1, by omega, by rw [← hgo, okAll_at hs, hok]; rfl, by have h4 := (okSal_iff.1 hok).2.2.2; show 0 ≤ (l.getD i sal0).minute; rw [getD_of hs]; omega⟩ ⟨.inl rfl, holdT_anys _⟩ (holdR_gones _) (by simp only; omega) (by repeat (first | exact kr _ | refine kc rfl ?_)) (by repeat (first | exact kr _ | refine kc rfl ?_))
    · skip
      obtain rfl : i = l.length := by simp at hb1; omega
      have e1 : okAll b l 0 = true := by rw [← hgo, List.drop_length]; rfl
      rw [e1]
      refine awp_exit ?_
      refine aend_then_exit ?_
      refine aend_then_exit ?_
      refine aend_block_exit ?_
      refine aend_then ?_
      refine awp_seq ?_
      refine awp_region ?_
      refine sq rfl rfl hn rfl (q_assign rfl rfl) ?_
      refine run_nil ?_
      refine aend_then ?_
      refine awp_ret ?_
      exact ret_1 (.inl rfl) hl rfl (.tmp rfl)
theorem shortest_ok (b : Brd) (l : List Sal) (v : BrdOK b) (h8 : l.length ≤ 8) (hall : okAll b l 0 = true) : PureAt Tryz.prog 40 [brdD b, salsD l] (strD ((spsW b (need l 0 (-1) 0)).drop 1)) := by
  refine PureAt.of_awp Tryz.func40 rfl (by kernel_rfl) (Nat.le_of_ble_eq_true rfl) fun Γ hn hl => ?_
  have hn4 := v.n4
  have htot := need_len v (st := -1) hall (by omega)
  refine awp_seq ?_
  refine awp_region ?_
  refine stepW (s_box 2 rfl rfl rfl (nb hn rfl) rfl rfl) fun b2 => ?_
  refine sq rfl rfl hn rfl (q_assign rfl rfl) ?_
  refine run_nil ?_
  refine aend_then ?_
  refine awp_seq ?_
  refine awp_region ?_
  refine sq rfl rfl hn rfl (q_assign rfl rfl) ?_
  refine sq rfl rfl hn rfl (q_assign rfl rfl) ?_
  refine sq rfl rfl hn rfl (q_assign rfl rfl) ?_
  refine run_nil ?_
  refine aend_then ?_
  refine awp_seq ?_
  refine awp_seq ?_
  refine awp_region ?_
  refine sq rfl rfl hn rfl (q_assign rfl rfl) ?_
  refine run_nil ?_
  refine aend_then ?_
  refine awp_block ?_
  refine awp_loop_on (ι := {x : Nat × List UInt8 × Int × Int // x.1 ≤ l.length ∧ x.2.1 ++ spsW b (need (l.drop x.1) x.2.2.1 x.2.2.2 0) = spsW b (need l 0 (-1) 0) ∧ okAll b (l.drop x.1) x.2.2.1 = true ∧ 0 ≤ x.2.2.1}) (fun x => (8, true, .d (.int .i64 (x.1.1 : Nat))) :: (5, true, .d (strD x.1.2.1)) :: (6, true, .d (.int .i64 x.1.2.2.1)) :: (7, true, .d (.int .i64 x.1.2.2.2)) :: anys [10, 11, 12, 13, 16, 17, 18, 19, 20, 21, 22, 23, 24, 25, 26, 27, 28, 29, 30, 31, 32, 33, 34, 35, 36, 37, 38, 39, 40, 41, 42, 43, 44, 45, 46, 47, 48, 49, 50, 51, 52, 53, 54, 55, 56, 57, 58, 59, 60, 61, 62, 63, 64, 65, 66, 67, 68, 69, 70, 71, 72, 73, 9, 74, 75, 76, 77, 78, 79, 80, 81, 82, 83, 84, 85, 86, 87, 88, 89, 90, 91, 92, 93, 94, 14, 15]) (fun x => []) (fun x => l.length - x.1.1) ⟨(0, [], 0, -1), Nat.zero_le _, rfl, hall, Int.le_refl _⟩ ⟨.inl rfl, .inl rfl, .inl rfl, .inl rfl, holdT_anys _⟩ trivial ?_
  rintro ⟨⟨i, out, m, sk⟩, hi, hgo, hok, hm0⟩
  dsimp only
  dsimp only at hi hgo hok hm0
  refine awp_seq ?_
  refine awp_seq ?_
  refine awp_region ?_
  refine sq rfl rfl hn rfl (q_move rfl rfl) ?_
  refine sq rfl rfl hn rfl (q_move rfl rfl) ?_
  refine sq rfl rfl hn rfl (q_len rfl rfl Tryz.underlying70) ?_
  refine sq rfl rfl hn rfl (q_lss rfl rfl rfl) ?_
  refine run_nil ?_
  refine aend_then ?_
  refine awp_cond rfl (fun hb0 => ?_) (fun hb0 => ?_)
  · skip
    have hil : i < l.length := by simp at hb0; omega
    obtain ⟨sl, hsl⟩ := ex_get hil
    rw [drop_get hsl, okAll, Bool.and_eq_true] at hok
    obtain ⟨hoks, hokr⟩ := hok
    obtain ⟨k1, k2, k3, k4⟩ := okSal_iff.1 hoks
    obtain ⟨k, hk⟩ : ∃ k : Nat, sl.stock = k := ⟨sl.stock.toNat, by omega⟩
    obtain ⟨st, hst⟩ := ex_get (show k < b.stocks.length by omega)
    obtain ⟨mn, hmn⟩ : ∃ n : Nat, sl.minute = n := ⟨sl.minute.toNat, by omega⟩
    obtain ⟨nn, hnn⟩ : ∃ n : Nat, sl.number = n := ⟨sl.number.toNat, by omega⟩
    obtain ⟨pn, hpn⟩ : ∃ n : Nat, sl.price = n := ⟨sl.price.toNat, by omega⟩
    have hneed : need (sl :: l.drop (i + 1)) m sk 0 = optW (sl.minute != m) (.mi sl.minute.toNat) ++ (optW (sl.stock != sk) (.na sl.stock.toNat) ++ (optW (decide (1 < sl.number) && decide ((0 : Int) ≤ 0)) (.nu sl.number.toNat) ++ (.sh (pn % 80) :: need (l.drop (i + 1)) sl.minute sl.stock 0))) := by rw [need, hpn]; rfl
    have hlen := congrArg List.length hgo
    rw [drop_get hsl, hneed] at hlen
    simp only [spsW_app, spsW_cons, List.length_append, List.length_cons] at hlen
    have htot2 : (spsW b (need l 0 (-1) 0)).length ≤ 17 * l.length := htot
    have dm := dd_len (show mn < 1000 by omega)
    have dn := dd_len (show nn < 1000 by omega)
    have dp := dd_len (show pn % 80 / 8 < 1000 by omega)
    have dq := dd_len (show pn % 80 % 8 < 1000 by omega)
    have dna := nmd_all (name_ok v (show k < b.stocks.length by omega))
    rw [getD_of hst] at dna
    refine awp_skip ?_
    refine aend_then ?_
    refine awp_seq ?_
    refine awp_block ?_
    refine awp_seq ?_
    refine awp_seq ?_
    refine awp_region ?_
    refine sq rfl rfl hn rfl (q_move rfl rfl) ?_
    refine sq rfl rfl hn rfl (q_move rfl rfl) ?_
    refine sq rfl rfl hn rfl (q_index (i := i) rfl rfl rfl Tryz.underlying70 sz91 rfl (mget hsl)) ?_
    refine sq rfl rfl hn rfl (q_fieldAddrp rfl rfl Tryz.underlying91 rfl sz3 rfl) ?_
    refine sq rfl rfl hn rfl (q_loadp rfl rfl Tryz.underlying3 rfl seesF0) ?_
    refine sq rfl rfl hn rfl (q_move rfl rfl) ?_
    refine sq rfl rfl hn rfl (q_neq rfl rfl rfl) ?_
    refine run_nil ?_
    refine aend_then ?_
    refine awp_join_on (e := .normal) (ι := Unit) (fun u0 => (5, true, .d (strD (out ++ spsW b (optW (sl.minute != m) (.mi sl.minute.toNat))))) :: anys [23, 24, 25, 26, 27, 28, 29, 30, 31]) (fun u0 => []) (fun hJ1 => ?_) ?_
    · skip
      refine awp_cond rfl (fun hb1 => ?_) (fun hb1 => ?_)
      · skip
        have q1 : (sl.minute != m) = true := hb1
        have e1 : spsW b (optW (sl.minute != m) (.mi sl.minute.toNat)) = [32, 64] ++ Lib.decDigits mn := by rw [spsW_o, q1, hmn]; rfl
        refine awp_region ?_
        refine sq rfl rfl hn rfl (q_move rfl rfl) ?_
        refine sq rfl rfl hn rfl (q_move rfl rfl) ?_
        refine sq rfl rfl hn rfl (q_move rfl rfl) ?_
        refine sq rfl rfl hn rfl (q_index (i := i) rfl rfl rfl Tryz.underlying70 sz91 rfl (mget hsl)) ?_
        refine sq rfl rfl hn rfl (q_fieldAddrp rfl rfl Tryz.underlying91 rfl sz3 rfl) ?_
        refine sq rfl rfl hn rfl (q_loadp rfl rfl Tryz.underlying3 rfl seesF0) ?_
        refine stepW (s_call [] (fun _ => (by rw [hmn]; exact Text_ok mn (by omega))) rfl (guard_none rfl) rfl (nb hn rfl) (fun _ => trivial) rfl rfl (.refl _)) fun _ => ?_
        refine sq rfl rfl hn rfl (q_addS rfl rfl rfl (by simp only [List.length_append, List.length_cons, List.length_nil]; omega) rfl) ?_
        refine sq rfl rfl hn rfl (q_addS rfl rfl rfl (by simp only [List.length_append, List.length_cons, List.length_nil]; omega) rfl) ?_
        refine sq rfl rfl hn rfl (q_assign rfl rfl) ?_
        refine run_nil ?_
        exact aend_join_on hJ1 () ⟨.inl (congrArg (fun z => some (true, TV.d (strD z))) (by rw [e1])), holdT_anys _⟩ trivial (by repeat (first | exact kr _ | refine kc rfl ?_)) (by repeat (first | exact kr _ | refine kc rfl ?_))
      · skip
        have q1 : (sl.minute != m) = false := hb1
        have e1 : spsW b (optW (sl.minute != m) (.mi sl.minute.toNat)) = [] := by rw [spsW_o, q1]; rfl
        refine awp_skip ?_
        exact aend_join_on hJ1 () ⟨.inl (congrArg (fun z => some (true, TV.d (strD z))) (by rw [e1, List.append_nil])), holdT_anys _⟩ trivial (by repeat (first | exact kr _ | refine kc rfl ?_)) (by repeat (first | exact kr _ | refine kc rfl ?_))
    · rintro _
      refine aend_then ?_
      refine awp_seq ?_
      refine awp_seq ?_
      refine awp_region ?_
      refine sq rfl rfl hn rfl (q_move rfl rfl) ?_
      refine sq rfl rfl hn rfl (q_move rfl rfl) ?_
      refine sq rfl rfl hn rfl (q_index (i := i) rfl rfl rfl Tryz.underlying70 sz91 rfl (mget hsl)) ?_
      refine sq rfl rfl hn rfl (q_fieldAddrp rfl rfl Tryz.underlying91 rfl sz3 rfl) ?_
      refine sq rfl rfl hn rfl (q_loadp rfl rfl Tryz.underlying3 rfl seesF0) ?_
      refine sq rfl rfl hn rfl (q_move rfl rfl) ?_
      refine sq rfl rfl hn rfl (q_neq rfl rfl rfl) ?_
      refine run_nil ?_
      refine aend_then ?_
      refine awp_join_on (e := .normal) (ι := Unit) (fun u0 => (5, true, .d (strD ((out ++ spsW b (optW (sl.minute != m) (.mi sl.minute.toNat))) ++ spsW b (optW (sl.stock != sk) (.na sl.stock.toNat))))) :: anys [39, 40, 41, 42, 43, 44, 45, 46, 47, 48, 49, 50, 51]) (fun u0 => []) (fun hJ2 => ?_) ?_
      · skip
        refine awp_cond rfl (fun hb2 => ?_) (fun hb2 => ?_)
        · skip
          have q2 : (sl.stock != sk) = true := hb2
          have e2 : spsW b (optW (sl.stock != sk) (.na sl.stock.toNat)) = [32] ++ st.name := by rw [spsW_o, q2, hk]; show 32 :: (b.stocks.getD k stk0).name = _; rw [getD_of hst]; rfl
          refine d_start (W := fun b => b ≠ b2) fmo ?_
          refine d1q (i := 0) rfl (by kernel_rfl) (fun _ _ _ _ h => h) rfl rfl hn rfl (q_move rfl rfl) ?_
          refine d1q (i := 1) rfl (by kernel_rfl) (fun _ _ _ _ h => h) rfl rfl hn rfl (q_fieldAddr rfl rfl Tryz.underlying24 rfl sz22) ?_
          refine d1q (i := 2) rfl (by kernel_rfl) (fun _ _ _ _ h => h) rfl rfl hn rfl (q_load rfl rfl (id := 2) rfl Tryz.underlying22 rfl rfl (seesA (by simp))) ?_
          refine d1q (i := 3) rfl (by kernel_rfl) (fun _ _ _ _ h => h) rfl rfl hn rfl (q_move rfl rfl) ?_
          refine d1q (i := 4) rfl (by kernel_rfl) (fun _ _ _ _ h => h) rfl rfl hn rfl (q_move rfl rfl) ?_
          refine d1q (i := 5) rfl (by kernel_rfl) (fun _ _ _ _ h => h) rfl rfl hn rfl (q_index (i := i) rfl rfl rfl Tryz.underlying70 sz91 rfl (mget hsl)) ?_
          refine d1q (i := 6) rfl (by kernel_rfl) (fun _ _ _ _ h => h) rfl rfl hn rfl (q_fieldAddrp rfl rfl Tryz.underlying91 rfl sz3 rfl) ?_
          refine d1q (i := 7) rfl (by kernel_rfl) (fun _ _ _ _ h => h) rfl rfl hn rfl (q_loadp rfl rfl Tryz.underlying3 rfl seesFA) ?_
          refine d1q (i := 8) rfl (by kernel_rfl) (fun _ _ _ _ h => h) rfl rfl hn rfl (q_index (i := k) rfl rfl rfl Tryz.underlying22 sz98 hk (mget hst)) ?_
          refine d1q (i := 9) rfl (by kernel_rfl) (fun _ _ _ _ h => h) rfl rfl hn rfl (q_fieldAddrp rfl rfl Tryz.underlying98 rfl sz9 rfl) ?_
          refine d1q (i := 10) rfl (by kernel_rfl) (fun _ _ _ _ h => h) rfl rfl hn rfl (q_loadp rfl rfl Tryz.underlying9 rfl seesFA) ?_
          refine d1q (i := 11) rfl (by kernel_rfl) (fun _ _ _ _ h => h) rfl rfl hn rfl (q_addS rfl rfl rfl (by simp only [List.length_append, List.length_cons, List.length_nil]; omega) rfl) ?_
          refine d1q (i := 12) rfl (by kernel_rfl) (fun _ _ _ _ h => h) rfl rfl hn rfl (q_addS rfl rfl rfl (by simp only [List.length_append, List.length_cons, List.length_nil]; omega) rfl) ?_
          refine d1q (i := 13) rfl (by kernel_rfl) (fun _ _ _ _ h => h) rfl rfl hn rfl (q_assign rfl rfl) ?_
          refine d1_of_d2 ?_
          refine d2_done (by kernel_rfl) ?_
          exact aend_join_on hJ2 () ⟨.inl (congrArg (fun z => some (true, TV.d (strD z))) (by rw [e2])), holdT_anys _⟩ trivial (by repeat (first | exact kr _ | refine kc rfl ?_)) (by repeat (first | exact kr _ | refine kc rfl ?_))
        · skip
          have q2 : (sl.stock != sk) = false := hb2
          have e2 : spsW b (optW (sl.stock != sk) (.na sl.stock.toNat)) = [] := by rw [spsW_o, q2]; rfl
          refine awp_skip ?_
          exact aend_join_on hJ2 () ⟨.inl (congrArg (fun z => some (true, TV.d (strD z))) (by rw [e2, List.append_nil])), holdT_anys _⟩ trivial (by repeat (first | exact kr _ | refine kc rfl ?_)) (by repeat (first | exact kr _ | refine kc rfl ?_))
      · rintro _
        refine aend_then ?_
        refine awp_seq ?_
        refine awp_seq ?_
        refine awp_region ?_
        refine sq rfl rfl hn rfl (q_move rfl rfl) ?_
        refine sq rfl rfl hn rfl (q_move rfl rfl) ?_
        refine sq rfl rfl hn rfl (q_index (i := i) rfl rfl rfl Tryz.underlying70 sz91 rfl (mget hsl)) ?_
        refine sq rfl rfl hn rfl (q_fieldAddrp rfl rfl Tryz.underlying91 rfl sz3 rfl) ?_
        refine sq rfl rfl hn rfl (q_loadp rfl rfl Tryz.underlying3 rfl seesF0) ?_
        refine sq rfl rfl hn rfl (q_gtr rfl rfl rfl) ?_
        refine run_nil ?_
        refine aend_then ?_
        refine awp_join_on (e := .normal) (ι := Unit) (fun u0 => (5, true, .d (strD (((out ++ spsW b (optW (sl.minute != m) (.mi sl.minute.toNat))) ++ spsW b (optW (sl.stock != sk) (.na sl.stock.toNat))) ++ spsW b (optW (decide (1 < sl.number) && decide ((0 : Int) ≤ 0)) (.nu sl.number.toNat))))) :: anys [58, 59, 60, 61, 62, 63, 64, 65, 66, 67]) (fun u0 => []) (fun hJ3 => ?_) ?_
        · skip
          refine awp_cond rfl (fun hb3 => ?_) (fun hb3 => ?_)
          · skip
            have q3 : decide (1 < sl.number) = true := hb3
            have e3 : spsW b (optW (decide (1 < sl.number) && decide ((0 : Int) ≤ 0)) (.nu sl.number.toNat)) = [32] ++ Lib.decDigits nn ++ [115] := by rw [spsW_o, q3, hnn]; rfl
            refine awp_region ?_
            refine sq rfl rfl hn rfl (q_move rfl rfl) ?_
            refine sq rfl rfl hn rfl (q_move rfl rfl) ?_
            refine sq rfl rfl hn rfl (q_move rfl rfl) ?_
            refine sq rfl rfl hn rfl (q_index (i := i) rfl rfl rfl Tryz.underlying70 sz91 rfl (mget hsl)) ?_
            refine sq rfl rfl hn rfl (q_fieldAddrp rfl rfl Tryz.underlying91 rfl sz3 rfl) ?_
            refine sq rfl rfl hn rfl (q_loadp rfl rfl Tryz.underlying3 rfl seesF0) ?_
            refine stepW (s_call [] (fun _ => (by rw [hnn]; exact Text_ok nn (by omega))) rfl (guard_none rfl) rfl (nb hn rfl) (fun _ => trivial) rfl rfl (.refl _)) fun _ => ?_
            refine sq rfl rfl hn rfl (q_addS rfl rfl rfl (by simp only [List.length_append, List.length_cons, List.length_nil]; omega) rfl) ?_
            refine sq rfl rfl hn rfl (q_addS rfl rfl rfl (by simp only [List.length_append, List.length_cons, List.length_nil]; omega) rfl) ?_
            refine sq rfl rfl hn rfl (q_addS rfl rfl rfl (by simp only [List.length_append, List.length_cons, List.length_nil]; omega) rfl) ?_
            refine sq rfl rfl hn rfl (q_assign rfl rfl) ?_
            refine run_nil ?_
            exact aend_join_on hJ3 () ⟨.inl (congrArg (fun z => some (true, TV.d (strD z))) (by rw [e3])), holdT_anys _⟩ trivial (by repeat (first | exact kr _ | refine kc rfl ?_)) (by repeat (first | exact kr _ | refine kc rfl ?_))
          · skip
            have q3 : decide (1 < sl.number) = false := hb3
            have e3 : spsW b (optW (decide (1 < sl.number) && decide ((0 : Int) ≤ 0)) (.nu sl.number.toNat)) = [] := by rw [spsW_o, q3]; rfl
            refine awp_skip ?_
            exact aend_join_on hJ3 () ⟨.inl (congrArg (fun z => some (true, TV.d (strD z))) (by rw [e3, List.append_nil])), holdT_anys _⟩ trivial (by repeat (first | exact kr _ | refine kc rfl ?_)) (by repeat (first | exact kr _ | refine kc rfl ?_))
        · rintro _
          refine aend_then ?_
          refine awp_seq ?_
          refine awp_region ?_
          refine sq rfl rfl hn rfl (q_move rfl rfl) ?_
          refine sq rfl rfl hn rfl (q_move rfl rfl) ?_
          refine sq rfl rfl hn rfl (q_index (i := i) rfl rfl rfl Tryz.underlying70 sz91 rfl (mget hsl)) ?_
          refine sq rfl rfl hn rfl (q_fieldAddrp rfl rfl Tryz.underlying91 rfl sz3 rfl) ?_
          refine sq rfl rfl hn rfl (q_loadp rfl rfl Tryz.underlying3 rfl seesF0) ?_
          refine sq rfl rfl hn rfl (q_rem rfl rfl rfl (r := ((pn % 80 : Nat) : Int)) (by omega) (by rw [hpn]; exact modN (a := pn) (b := 80) (by omega))) ?_
          refine sq rfl rfl hn rfl (q_assign rfl rfl) ?_
          refine run_nil ?_
          refine aend_then ?_
          refine awp_seq ?_
          refine awp_region ?_
          refine sq rfl rfl hn rfl (q_move rfl rfl) ?_
          refine sq rfl rfl hn rfl (q_move rfl rfl) ?_
          refine sq rfl rfl hn rfl (q_quo rfl rfl rfl (r := ((pn % 80 / 8 : Nat) : Int)) (by omega) (quoN (a := pn % 80) (b := 8) (by omega) (by omega))) ?_
          refine stepW (s_call [] (fun _ => Text_ok (pn % 80 / 8) (by omega)) rfl (guard_none rfl) rfl (nb hn rfl) (fun _ => trivial) rfl rfl (.refl _)) fun _ => ?_
          refine sq rfl rfl hn rfl (q_addS rfl rfl rfl (by simp only [List.length_append, List.length_cons, List.length_nil]; omega) rfl) ?_
          refine sq rfl rfl hn rfl (q_addS rfl rfl rfl (by simp only [List.length_append, List.length_cons, List.length_nil]; omega) rfl) ?_
          refine sq rfl rfl hn rfl (q_move rfl rfl) ?_
          refine sq rfl rfl hn rfl (q_rem rfl rfl rfl (r := ((pn % 80 % 8 : Nat) : Int)) (by omega) (modN (a := pn % 80) (b := 8) (by omega))) ?_
          refine stepW (s_call [] (fun _ => Text_ok (pn % 80 % 8) (by omega)) rfl (guard_none rfl) rfl (nb hn rfl) (fun _ => trivial) rfl rfl (.refl _)) fun _ => ?_
          refine sq rfl rfl hn rfl (q_addS rfl rfl rfl (by simp only [List.length_append, List.length_cons, List.length_nil]; omega) rfl) ?_
          refine sq rfl rfl hn rfl (q_addS rfl rfl rfl (by simp only [List.length_append, List.length_cons, List.length_nil]; omega) rfl) ?_
          refine sq rfl rfl hn rfl (q_assign rfl rfl) ?_
          refine run_nil ?_
          refine aend_then ?_
          refine d_start (W := fun b => True) fmo ?_
          refine d1q (i := 0) rfl (by kernel_rfl) (fun _ _ _ _ h => h) rfl rfl hn rfl (q_move rfl rfl) ?_
          refine d1q (i := 1) rfl (by kernel_rfl) (fun _ _ _ _ h => h) rfl rfl hn rfl (q_move rfl rfl) ?_
          refine d1q (i := 2) rfl (by kernel_rfl) (fun _ _ _ _ h => h) rfl rfl hn rfl (q_index (i := i) rfl rfl rfl Tryz.underlying70 sz91 rfl (mget hsl)) ?_
          refine d1q (i := 3) rfl (by kernel_rfl) (fun _ _ _ _ h => h) rfl rfl hn rfl (q_fieldAddrp rfl rfl Tryz.underlying91 rfl sz3 rfl) ?_
          refine d1q (i := 4) rfl (by kernel_rfl) (fun _ _ _ _ h => h) rfl rfl hn rfl (q_loadp rfl rfl Tryz.underlying3 rfl seesFA) ?_
          refine d1q (i := 5) rfl (by kernel_rfl) (fun _ _ _ _ h => h) rfl rfl hn rfl (q_move rfl rfl) ?_
          refine d1q (i := 6) rfl (by kernel_rfl) (fun _ _ _ _ h => h) rfl rfl hn rfl (q_move rfl rfl) ?_
          refine d1q (i := 7) rfl (by kernel_rfl) (fun _ _ _ _ h => h) rfl rfl hn rfl (q_index (i := i) rfl rfl rfl Tryz.underlying70 sz91 rfl (mget hsl)) ?_
          refine d1q (i := 8) rfl (by kernel_rfl) (fun _ _ _ _ h => h) rfl rfl hn rfl (q_fieldAddrp rfl rfl Tryz.underlying91 rfl sz3 rfl) ?_
          refine d1q (i := 9) rfl (by kernel_rfl) (fun _ _ _ _ h => h) rfl rfl hn rfl (q_loadp rfl rfl Tryz.underlying3 rfl seesFA) ?_
          refine d1q (i := 10) rfl (by kernel_rfl) (fun _ _ _ _ h => h) rfl rfl hn rfl (q_assign rfl rfl) ?_
          refine d1q (i := 11) rfl (by kernel_rfl) (fun _ _ _ _ h => h) rfl rfl hn rfl (q_assign rfl rfl) ?_
          refine d1_of_d2 ?_
          refine d2_done (by kernel_rfl) ?_
          refine aend_block ?_
          refine aend_then ?_
          refine awp_region ?_
          refine sq rfl rfl hn rfl (q_move rfl rfl) ?_
          refine sq rfl rfl hn rfl (q_add rfl rfl rfl (r := ((i + 1 : Nat) : Int)) (i64w (by omega) (by omega))) ?_
          refine sq rfl rfl hn rfl (q_assign rfl rfl) ?_
          refine run_nil ?_
          exact aend_round_on ⟨(i + 1, ((out ++ spsW b (optW (sl.minute != m) (.mi sl.minute.toNat))) ++ spsW b (optW (sl.stock != sk) (.na sl.stock.toNat))) ++ spsW b (optW (decide (1 < sl.number) && decide ((0 : Int) ≤ 0)) (.nu sl.number.toNat)) ++ (32 :: ((Wd.sh (pn % 80)).text b)), sl.minute, sl.stock), by simp only; omega, by simp only; rw [← hgo, drop_get hsl, hneed]; simp only [spsW_app, spsW_cons, List.append_assoc, List.cons_append], hokr, by simp only; omega⟩ ⟨.inl rfl, .inl (congrArg (fun z => some (true, TV.d (strD z))) (by simp only [Wd.text]; simp)), .inl rfl, .inl rfl, holdT_anys _⟩ trivial (by simp only; omega) (by repeat (first | exact kr _ | refine kc rfl ?_)) (by repeat (first | exact kr _ | refine kc rfl ?_))
  · skip
    obtain rfl : i = l.length := by simp at hb0; omega
    rw [List.drop_length] at hgo
    have hgo2 : out = spsW b (need l 0 (-1) 0) := by rw [← hgo]; show out = out ++ []; simp
    rw [← hgo2]
    refine awp_exit ?_
    refine aend_then_exit ?_
    refine aend_then_exit ?_
    refine aend_block_exit ?_
    refine aend_then ?_
    refine awp_seq ?_
    refine awp_seq ?_
    refine awp_region ?_
    refine sq rfl rfl hn rfl (q_move rfl rfl) ?_
    refine sq rfl rfl hn rfl (q_eqlS rfl rfl rfl) ?_
    refine run_nil ?_
    refine aend_then ?_
    refine awp_cond rfl (fun hb4 => ?_) (fun hb4 => ?_)
    · skip
      have h0 : out = [] := by simpa using hb4
      rw [h0]
      refine awp_seq ?_
      refine awp_region ?_
      refine sq rfl rfl hn rfl (q_assign rfl rfl) ?_
      refine run_nil ?_
      refine aend_then ?_
      refine awp_ret ?_
      refine aend_then_ret ?_
      exact ret_1 (.inl rfl) hl rfl (.tmp rfl)
    · skip
      have h0 : out ≠ [] := by simpa using hb4
      have h0l := List.length_pos_iff.2 h0
      refine awp_skip ?_
      refine aend_then ?_
      refine awp_seq ?_
      refine awp_region ?_
      refine sq rfl rfl hn rfl (q_move rfl rfl) ?_
      refine sq rfl rfl hn rfl (q_sliceSf (i := 1) rfl rfl rfl Tryz.underlying9 rfl (by omega) rfl) ?_
      refine sq rfl rfl hn rfl (q_assign rfl rfl) ?_
      refine run_nil ?_
      refine aend_then ?_
      refine awp_ret ?_
      exact ret_1 (.inl rfl) hl rfl (.tmp rfl)
theorem TapeWrites_ok (b : Brd) (l : List Sal) (t : List UInt8) (hN : NamesOK b) : PureAt Tryz.prog 7 [brdD b, salsD l, strD t] (.bool true) := by
  refine PureAt.of_awp Tryz.func7 rfl (by kernel_rfl) (Nat.le_of_ble_eq_true rfl) fun Γ hn hl => ?_
  refine awp_seq ?_
  refine awp_region ?_
  refine stepW (s_box 3 rfl rfl rfl (nb hn rfl) rfl rfl) fun b3 => ?_
  refine sq rfl rfl hn rfl (q_assign rfl rfl) ?_
  refine run_nil ?_
  refine aend_then ?_
  refine awp_seq ?_
  refine awp_seq ?_
  refine awp_region ?_
  refine sq rfl rfl hn rfl (q_loadAd rfl rfl (id := 3) rfl Tryz.underlying24 rfl sz24 rfl rfl sees0) ?_
  refine sq rfl rfl hn rfl (q_move rfl rfl) ?_
  refine stepW (s_call [] (fun _ => Thin_ok b t hN) rfl (guard_none rfl) rfl (nb hn rfl) (fun _ => trivial) rfl rfl (.refl _)) fun _ => ?_
  refine sq rfl rfl hn rfl (q_not rfl rfl) ?_
  refine sq rfl rfl hn rfl (q_move rfl rfl) ?_
  refine stepG [] (guard_some rfl rfl rfl) rfl (nb hn rfl) (fun hc => trivial) (fun hc => q_move rfl rfl) ?_
  refine stepG [(15, _)] (guard_some rfl rfl rfl) rfl (nb hn rfl) (fun hc => ⟨⟨_, rfl, hc⟩, trivial⟩) (fun hc => q_len rfl rfl Tryz.underlying70) ?_
  refine stepG [(16, _)] (guard_some rfl rfl rfl) rfl (nb hn rfl) (fun hc => ⟨⟨_, rfl, hc⟩, trivial⟩) (fun hc => q_gtr rfl rfl rfl) ?_
  refine sq rfl rfl hn rfl (q_or rfl rfl rfl (by intro hB; first | (rw [hB]; rfl) | (rw [hB, hc]; rfl) | simp_all)) ?_
  refine run_nil ?_
  refine aend_then ?_
  refine awp_cond rfl (fun hb0 => ?_) (fun hb0 => ?_)
  · skip
    refine awp_seq ?_
    refine awp_region ?_
    refine stepW (s_call [] (fun _ => awake_ok) rfl (guard_none rfl) rfl (nb hn rfl) (fun _ => trivial) rfl rfl (.refl _)) fun _ => ?_
    refine sq rfl rfl hn rfl (q_assign rfl rfl) ?_
    refine run_nil ?_
    refine aend_then ?_
    refine awp_ret ?_
    refine aend_then_ret ?_
    exact ret_1 (.inl rfl) hl rfl (.tmp rfl)
  · skip
    obtain ⟨hth, hl11⟩ : thinT b t.length = true ∧ l.length ≤ 11 := by have h := hb0; simp only [Bool.or_eq_false_iff, Bool.not_eq_false', decide_eq_false_iff_not, List.length_map] at h; exact ⟨h.1, by omega⟩
    obtain ⟨hb7, hs2⟩ := thin_bd hth
    refine awp_skip ?_
    refine aend_then ?_
    refine awp_seq ?_
    refine awp_region ?_
    refine sq rfl rfl hn rfl (q_loadAd rfl rfl (id := 3) rfl Tryz.underlying24 rfl sz24 rfl rfl sees0) ?_
    refine stepW (s_call [] (fun _ => Board_ok b (by omega)) rfl (guard_none rfl) rfl (nb hn rfl) (fun _ => trivial) rfl rfl (.refl _)) fun _ => ?_
    refine sq rfl rfl hn rfl (q_move rfl rfl) ?_
    refine stepW (s_call [] (fun _ => Sales_ok l (by omega)) rfl (guard_none rfl) rfl (nb hn rfl) (fun _ => trivial) rfl rfl (.refl _)) fun _ => ?_
    refine stepW (s_call [] (fun _ => Write_ok b l hN) rfl (guard_none rfl) rfl (nb hn rfl) (fun _ => trivial) rfl rfl (.refl _)) fun _ => ?_
    refine sq rfl rfl hn rfl (q_move rfl rfl) ?_
    refine sq rfl rfl hn rfl (q_extractd rfl rfl rfl) ?_
    refine sq rfl rfl hn rfl (q_extractd rfl rfl rfl) ?_
    refine sq rfl rfl hn rfl (q_assign rfl rfl) ?_
    refine sq rfl rfl hn rfl (q_assign rfl rfl) ?_
    refine run_nil ?_
    refine aend_then ?_
    refine awp_seq ?_
    refine awp_region ?_
    refine sq rfl rfl hn rfl (q_loadAd rfl rfl (id := 3) rfl Tryz.underlying24 rfl sz24 rfl rfl sees0) ?_
    refine stepW (s_call [] (fun _ => fault_ok b hN) rfl (guard_none rfl) rfl (nb hn rfl) (fun _ => trivial) rfl rfl (.refl _)) fun _ => ?_
    refine sq rfl rfl hn rfl (q_assign rfl rfl) ?_
    refine run_nil ?_
    refine aend_then ?_
    refine awp_seq ?_
    refine awp_seq ?_
    refine awp_region ?_
    refine sq rfl rfl hn rfl (q_move rfl rfl) ?_
    refine sq rfl rfl hn rfl (q_eql rfl rfl rfl) ?_
    refine run_nil ?_
    refine aend_then ?_
    refine awp_join_on (e := .normal) (ι := Unit) (fun u0 => (9, true, .d (.int .i64 (writeI b l).2)) :: anys [32, 33, 34]) (fun u0 => []) (fun hJ1 => ?_) ?_
    · skip
      refine awp_cond rfl (fun hb1 => ?_) (fun hb1 => ?_)
      · skip
        have h0 : checkT b = 0 := by simpa using hb1
        have ew : sfI b l = (writeI b l).2 := by rw [write_sf, h0]; rfl
        refine awp_region ?_
        refine sq rfl rfl hn rfl (q_loadAd rfl rfl (id := 3) rfl Tryz.underlying24 rfl sz24 rfl rfl sees0) ?_
        refine sq rfl rfl hn rfl (q_move rfl rfl) ?_
        refine stepW (s_call [] (fun _ => SalesFault_ok b l (by omega)) rfl (guard_none rfl) rfl (nb hn rfl) (fun _ => trivial) rfl rfl (.refl _)) fun _ => ?_
        refine sq rfl rfl hn rfl (q_assign rfl rfl) ?_
        refine run_nil ?_
        exact aend_join_on hJ1 () ⟨.inl (congrArg (fun z => some (true, TV.d (D.int .i64 z))) ew), holdT_anys _⟩ trivial (by repeat (first | exact kr _ | refine kc rfl ?_)) (by repeat (first | exact kr _ | refine kc rfl ?_))
      · skip
        have h0 : (checkT b != 0) = true := by have h := hb1; simpa using h
        have ew : checkT b = (writeI b l).2 := by rw [write_sf, h0]; rfl
        refine awp_skip ?_
        exact aend_join_on hJ1 () ⟨.inl (congrArg (fun z => some (true, TV.d (D.int .i64 z))) ew), holdT_anys _⟩ trivial (by repeat (first | exact kr _ | refine kc rfl ?_)) (by repeat (first | exact kr _ | refine kc rfl ?_))
    · rintro _
      refine aend_then ?_
      refine awp_seq ?_
      refine awp_seq ?_
      refine awp_region ?_
      refine sq rfl rfl hn rfl (q_move rfl rfl) ?_
      refine sq rfl rfl hn rfl (q_neq rfl rfl rfl) ?_
      refine run_nil ?_
      refine aend_then ?_
      refine awp_cond rfl (fun hb2 => ?_) (fun hb2 => ?_)
      · skip
        have hne : (writeI b l).2 ≠ 0 := by simpa using hb2
        have hnil := write_bad hne
        refine awp_seq ?_
        refine awp_region ?_
        refine sq rfl rfl hn rfl (q_move rfl rfl) ?_
        refine sq rfl rfl hn rfl (q_move rfl rfl) ?_
        refine sq rfl rfl hn rfl (q_eql rfl rfl rfl) ?_
        refine sq rfl rfl hn rfl (q_move rfl rfl) ?_
        refine stepG [] (guard_some rfl rfl rfl) rfl (nb hn rfl) (fun hc => trivial) (fun hc => q_move rfl rfl) ?_
        refine stepG [(41, _)] (guard_some rfl rfl rfl) rfl (nb hn rfl) (fun hc => ⟨⟨_, rfl, hc⟩, trivial⟩) (fun hc => q_eqlS rfl rfl rfl) ?_
        refine sq rfl rfl hn rfl (q_and rfl rfl rfl (by intro hB; first | (rw [hB]; rfl) | (rw [hB, hc]; rfl) | simp_all)) ?_
        refine sq rfl rfl hn rfl (q_move rfl rfl) ?_
        refine stepW (s_call [] (fun hc => awake_ok) rfl (guard_some rfl rfl rfl) rfl (nb hn rfl) (fun hc => trivial) rfl rfl (.refl _)) fun _ => ?_
        refine sq rfl rfl hn rfl (q_and rfl rfl rfl (by intro hB; first | (rw [hB]; rfl) | (rw [hB, hc]; rfl) | simp_all)) ?_
        refine sq rfl rfl hn rfl (q_assign rfl rfl) ?_
        refine run_nil ?_
        refine aend_then ?_
        refine awp_ret ?_
        refine aend_then_ret ?_
        refine ret_eq (ret_1 (.inl rfl) hl rfl (.tmp rfl)) ?_
        rw [hnil]; simp
      · skip
        have he0 : (writeI b l).2 = 0 := by simpa using hb2
        obtain ⟨h0, hl8, hall, hw⟩ := write_good he0
        have hsay : saysB b (writeI b l).1 l = true := by rw [hw]; exact write_says h0 hl8 hall
        have hwl : (writeI b l).1.length ≤ 1000 := by have := need_len (valid_of h0) (st := -1) hall (by omega); rw [hw, List.length_drop]; show (spsW b (need l 0 (-1) 0)).length - 1 ≤ 1000; have h2 : (spsW b (need l 0 (-1) 0)).length ≤ 17 * l.length := this; omega
        refine awp_skip ?_
        refine aend_then ?_
        refine awp_seq ?_
        refine awp_seq ?_
        refine awp_region ?_
        refine sq rfl rfl hn rfl (q_move rfl rfl) ?_
        refine sq rfl rfl hn rfl (q_neq rfl rfl rfl) ?_
        refine sq rfl rfl hn rfl (q_move rfl rfl) ?_
        refine stepG [] (guard_some rfl rfl rfl) rfl (nb hn rfl) (fun hc => trivial) (fun hc => q_loadAd rfl rfl (id := 3) rfl Tryz.underlying24 rfl sz24 rfl rfl sees0) ?_
        refine stepG [] (guard_some rfl rfl rfl) rfl (nb hn rfl) (fun hc => trivial) (fun hc => q_move rfl rfl) ?_
        refine stepG [] (guard_some rfl rfl rfl) rfl (nb hn rfl) (fun hc => trivial) (fun hc => q_move rfl rfl) ?_
        refine stepW (s_call [(50, _), (51, _), (52, _)] (fun hc => Says_ok b (writeI b l).1 l h0 (by omega)) rfl (guard_some rfl rfl rfl) rfl (nb hn rfl) (fun hc => ⟨⟨_, rfl, hc⟩, ⟨_, rfl, hc⟩, ⟨_, rfl, hc⟩, trivial⟩) rfl rfl (.refl _)) fun _ => ?_
        refine stepG [(53, _)] (guard_some rfl rfl rfl) rfl (nb hn rfl) (fun hc => ⟨⟨_, rfl, hc⟩, trivial⟩) (fun hc => q_not rfl rfl) ?_
        refine sq rfl rfl hn rfl (q_or rfl rfl rfl (by intro hB; first | (rw [hB]; rfl) | (rw [hB, hc]; rfl) | simp_all)) ?_
        refine sq rfl rfl hn rfl (q_move rfl rfl) ?_
        refine stepG [] (guard_some rfl rfl rfl) rfl (nb hn rfl) (fun hc => trivial) (fun hc => q_move rfl rfl) ?_
        refine stepG [] (guard_some rfl rfl rfl) rfl (nb hn rfl) (fun hc => trivial) (fun hc => q_loadAd rfl rfl (id := 3) rfl Tryz.underlying24 rfl sz24 rfl rfl sees0) ?_
        refine stepG [] (guard_some rfl rfl rfl) rfl (nb hn rfl) (fun hc => trivial) (fun hc => q_move rfl rfl) ?_
        refine stepW (s_call [(58, _), (59, _)] (fun hc => shortest_ok b l (valid_of h0) hl8 hall) rfl (guard_some rfl rfl rfl) rfl (nb hn rfl) (fun hc => ⟨⟨_, rfl, hc⟩, ⟨_, rfl, hc⟩, trivial⟩) rfl rfl (.refl _)) fun _ => ?_
        refine stepG [(57, _), (60, _)] (guard_some rfl rfl rfl) rfl (nb hn rfl) (fun hc => ⟨⟨_, rfl, hc⟩, ⟨_, rfl, hc⟩, trivial⟩) (fun hc => q_neqS rfl rfl rfl) ?_
        refine sq rfl rfl hn rfl (q_or rfl rfl rfl (by intro hB; first | (rw [hB]; rfl) | (rw [hB, hc]; rfl) | simp_all)) ?_
        refine run_nil ?_
        refine aend_then ?_
        refine awp_cond rfl (fun hb3 => ?_) (fun hb3 => ?_)
        · skip
          exact absurd hb3 (by rw [he0, hsay, hw]; simp)
        · skip
          refine awp_skip ?_
          refine aend_then ?_
          refine awp_seq ?_
          refine awp_region ?_
          refine sq rfl rfl hn rfl (q_loadAd rfl rfl (id := 3) rfl Tryz.underlying24 rfl sz24 rfl rfl sees0) ?_
          refine sq rfl rfl hn rfl (q_move rfl rfl) ?_
          refine sq rfl rfl hn rfl (q_move rfl rfl) ?_
          refine stepW (s_call [] (fun _ => Says_ok b t l h0 (by omega)) rfl (guard_none rfl) rfl (nb hn rfl) (fun _ => trivial) rfl rfl (.refl _)) fun _ => ?_
          refine sq rfl rfl hn rfl (q_not rfl rfl) ?_
          refine sq rfl rfl hn rfl (q_move rfl rfl) ?_
          refine stepG [] (guard_some rfl rfl rfl) rfl (nb hn rfl) (fun hc => trivial) (fun hc => q_move rfl rfl) ?_
          refine stepG [(69, _)] (guard_some rfl rfl rfl) rfl (nb hn rfl) (fun hc => ⟨⟨_, rfl, hc⟩, trivial⟩) (fun hc => q_lenS rfl rfl Tryz.underlying9) ?_
          refine stepG [] (guard_some rfl rfl rfl) rfl (nb hn rfl) (fun hc => trivial) (fun hc => q_move rfl rfl) ?_
          refine stepG [(71, _)] (guard_some rfl rfl rfl) rfl (nb hn rfl) (fun hc => ⟨⟨_, rfl, hc⟩, trivial⟩) (fun hc => q_lenS rfl rfl Tryz.underlying9) ?_
          refine stepG [(70, _), (72, _)] (guard_some rfl rfl rfl) rfl (nb hn rfl) (fun hc => ⟨⟨_, rfl, hc⟩, ⟨_, rfl, hc⟩, trivial⟩) (fun hc => q_gtr rfl rfl rfl) ?_
          refine sq rfl rfl hn rfl (q_or rfl rfl rfl (by intro hB; first | (rw [hB]; rfl) | (rw [hB, hc]; rfl) | simp_all)) ?_
          refine sq rfl rfl hn rfl (q_move rfl rfl) ?_
          refine stepG [] (guard_some rfl rfl rfl) rfl (nb hn rfl) (fun hc => trivial) (fun hc => q_move rfl rfl) ?_
          refine stepG [(76, _)] (guard_some rfl rfl rfl) rfl (nb hn rfl) (fun hc => ⟨⟨_, rfl, hc⟩, trivial⟩) (fun hc => q_lenS rfl rfl Tryz.underlying9) ?_
          refine stepG [] (guard_some rfl rfl rfl) rfl (nb hn rfl) (fun hc => trivial) (fun hc => q_move rfl rfl) ?_
          refine stepG [(78, _)] (guard_some rfl rfl rfl) rfl (nb hn rfl) (fun hc => ⟨⟨_, rfl, hc⟩, trivial⟩) (fun hc => q_lenS rfl rfl Tryz.underlying9) ?_
          refine stepG [(77, _), (79, _)] (guard_some rfl rfl rfl) rfl (nb hn rfl) (fun hc => ⟨⟨_, rfl, hc⟩, ⟨_, rfl, hc⟩, trivial⟩) (fun hc => q_eql rfl rfl rfl) ?_
          refine stepG [(80, _)] (guard_some rfl rfl rfl) rfl (nb hn rfl) (fun hc => ⟨⟨_, rfl, hc⟩, trivial⟩) (fun hc => q_move rfl rfl) ?_
          refine stepG [] (guard_some rfl rfl rfl) rfl (nb hn rfl) (fun hc => trivial) (fun hc => q_move rfl rfl) ?_
          refine stepG [] (guard_some rfl rfl rfl) rfl (nb hn rfl) (fun hc => trivial) (fun hc => q_move rfl rfl) ?_
          refine stepG [(82, _), (83, _)] (guard_some rfl rfl rfl) rfl (nb hn rfl) (fun hc => ⟨⟨_, rfl, hc⟩, ⟨_, rfl, hc⟩, trivial⟩) (fun hc => q_geqS rfl rfl rfl) ?_
          refine stepG [(81, _)] (guard_some rfl rfl rfl) rfl (nb hn rfl) (fun hc => ⟨⟨_, rfl, hc⟩, trivial⟩) (fun hc => q_and rfl rfl rfl (by intro hB; first | (rw [hB]; rfl) | (rw [hB, hc]; rfl) | simp_all)) ?_
          refine sq rfl rfl hn rfl (q_or rfl rfl rfl (by intro hB; first | (rw [hB]; rfl) | (rw [hB, hc]; rfl) | simp_all)) ?_
          refine sq rfl rfl hn rfl (q_move rfl rfl) ?_
          refine stepW (s_call [] (fun hc => awake_ok) rfl (guard_some rfl rfl rfl) rfl (nb hn rfl) (fun hc => trivial) rfl rfl (.refl _)) fun _ => ?_
          refine sq rfl rfl hn rfl (q_and rfl rfl rfl (by intro hB; first | (rw [hB]; rfl) | (rw [hB, hc]; rfl) | simp_all)) ?_
          refine sq rfl rfl hn rfl (q_assign rfl rfl) ?_
          refine run_nil ?_
          refine aend_then ?_
          refine awp_ret ?_
          refine ret_eq (ret_1 (.inl rfl) hl rfl (.tmp rfl)) ?_
          cases hs : saysB b t l
          · simp
          · obtain ⟨g1, g2⟩ := other_law h0 hall hs
            have hw2 : (writeI b l).1 = (sps ((need l 0 (-1) 0).map (Wd.text b))).drop 1 := hw
            rw [← hw2] at g1 g2
            by_cases e : t.length = (writeI b l).1.length
            · rw [g2 e]; simp [str_size, e]
            · simp [str_size]; left; omega
end Go.Proofs.YtplpcamcnppibaaGreatDoor
