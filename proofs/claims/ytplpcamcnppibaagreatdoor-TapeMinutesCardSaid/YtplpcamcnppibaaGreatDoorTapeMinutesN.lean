/-
  A part of the proof that contangolaw.TapeMinutes returns true: what the last text needs, and no more. No condition: no statement of the seat is proved here.
-/
import Derived.Laws.StructEq
import Derived.Test.YtplpcamcnppibaaGreatDoorTapeMinutesM
namespace Go.Proofs.YtplpcamcnppibaaGreatDoor
open Go.RowKit
set_option linter.all false
set_option maxRecDepth 20000
theorem eqveql45 (a b c e : Int) (w : World) : (binOp .eql 45 (.agg #[.int .i64 a, .int .i64 b]) (.agg #[.int .i64 c, .int .i64 e])).run Tryz.prog w = .ok (.bool ((a == c && b == e))) w := by
  have u3 := Tryz.underlying3
  have a3 := Tryz.isAgg3
  have z3 := Tryz.sizeOf3
  have hS : Tryz.prog.underlying 45 = some (.struct (Tryz.prog.fieldsOf 45)) := by kernel_rfl
  have hp : Tryz.prog.stoodInHeld 45 = false := by kernel_rfl
  rw [run_eql_struct, show (10000 : Nat) = 9999 + 1 from rfl, run_equalIn_agg w 9999 45 _ _ hS hp]
  simp only [Program.fieldsOf, Tryz.underlying45]
  go_simp
  by_cases h1 : a = c <;> by_cases h2 : b = e <;> simp [h1, h2]
theorem q_eql45 {Γ : Cx} {σ : St} {o : Oper} {R : Rel} {x y : Operand} {t' : TypeId} {a b c d : Int} (h : o.op = .binOp .eql 45 x y t') (hx : σ.ev x = some (true, .d (.agg [.int .i64 a, .int .i64 b]))) (hy : σ.ev y = some (true, .d (.agg [.int .i64 c, .int .i64 d]))) :
    QV Γ Tryz.prog σ o R (.d (.bool ((a == c && b == d)))) := fun A w F hs => by
  obtain ⟨vs, e1, h1, _⟩ := hs.ev hx
  obtain ⟨us, e2, h2, _⟩ := hs.ev hy
  obtain ⟨v1, vs1, rfl, q1, v2, vs2, rfl, q2, q3⟩ := h1
  obtain ⟨u1, us1, rfl, p1, u2, us2, rfl, p2, p3⟩ := h2
  simp only [Rep, RepVals] at q1 q2 q3 p1 p2 p3
  subst q1 q2 q3 p1 p2 p3
  exact ⟨.bool ((a == c && b == d)), rfl, fun w' _ => by
    simp only [execOp, h, e1, e2, Sem.run_bind, run_eqGuard_agg w' .eql 45 x y _ _ (show Tryz.prog.eqGuardType Tryz.prog.depth 45 = false by kernel_rfl), Result.andThen_ok, eqveql45, Sem.run_pure]⟩
theorem eqvneq45 (a b c e : Int) (w : World) : (binOp .neq 45 (.agg #[.int .i64 a, .int .i64 b]) (.agg #[.int .i64 c, .int .i64 e])).run Tryz.prog w = .ok (.bool (!(a == c && b == e))) w := by
  have u3 := Tryz.underlying3
  have a3 := Tryz.isAgg3
  have z3 := Tryz.sizeOf3
  have hS : Tryz.prog.underlying 45 = some (.struct (Tryz.prog.fieldsOf 45)) := by kernel_rfl
  have hp : Tryz.prog.stoodInHeld 45 = false := by kernel_rfl
  rw [run_neq_struct, show (10000 : Nat) = 9999 + 1 from rfl, run_equalIn_agg w 9999 45 _ _ hS hp]
  simp only [Program.fieldsOf, Tryz.underlying45]
  go_simp
  by_cases h1 : a = c <;> by_cases h2 : b = e <;> simp [h1, h2]
theorem q_neq45 {Γ : Cx} {σ : St} {o : Oper} {R : Rel} {x y : Operand} {t' : TypeId} {a b c d : Int} (h : o.op = .binOp .neq 45 x y t') (hx : σ.ev x = some (true, .d (.agg [.int .i64 a, .int .i64 b]))) (hy : σ.ev y = some (true, .d (.agg [.int .i64 c, .int .i64 d]))) :
    QV Γ Tryz.prog σ o R (.d (.bool (!(a == c && b == d)))) := fun A w F hs => by
  obtain ⟨vs, e1, h1, _⟩ := hs.ev hx
  obtain ⟨us, e2, h2, _⟩ := hs.ev hy
  obtain ⟨v1, vs1, rfl, q1, v2, vs2, rfl, q2, q3⟩ := h1
  obtain ⟨u1, us1, rfl, p1, u2, us2, rfl, p2, p3⟩ := h2
  simp only [Rep, RepVals] at q1 q2 q3 p1 p2 p3
  subst q1 q2 q3 p1 p2 p3
  exact ⟨.bool (!(a == c && b == d)), rfl, fun w' _ => by
    simp only [execOp, h, e1, e2, Sem.run_bind, run_eqGuard_agg w' .neq 45 x y _ _ (show Tryz.prog.eqGuardType Tryz.prog.depth 45 = false by kernel_rfl), Result.andThen_ok, eqvneq45, Sem.run_pure]⟩
def prtB (p q : Prt) : Bool := p.stock == q.stock && ((p.nlo == q.nlo && p.nhi == q.nhi) && (p.fig == q.fig && ((p.full == q.full) && (p.minute == q.minute && (p.llo == q.llo && p.lhi == q.lhi)))))
def prtV (p : Prt) : Array Value := #[.int .i64 p.stock, .int .i64 p.nlo, .int .i64 p.nhi, .int .i64 p.fig, .bool p.full, .int .i64 p.minute, .int .i64 p.llo, .int .i64 p.lhi]
theorem rep_prt {F : Nat → Nat → Prop} {w : World} {p : Prt} {vs : List Value} (h : RepVals F w (prtE p) vs) : vs = (prtV p).toList := by
  obtain ⟨v1, _, rfl, q1, v2, _, rfl, q2, v3, _, rfl, q3, v4, _, rfl, q4, v5, _, rfl, q5, v6, _, rfl, q6, v7, _, rfl, q7, v8, _, rfl, q8, q9⟩ := h
  simp only [Rep, RepVals] at q1 q2 q3 q4 q5 q6 q7 q8 q9
  subst q1 q2 q3 q4 q5 q6 q7 q8 q9
  rfl
theorem eqveql47 (p q : Prt) (w : World) : (binOp .eql 47 (.agg (prtV p)) (.agg (prtV q))).run Tryz.prog w = .ok (.bool ((prtB p q))) w := by
  have u3 := Tryz.underlying3
  have a3 := Tryz.isAgg3
  have z3 := Tryz.sizeOf3
  have u4 := Tryz.underlying4
  have a4 := Tryz.isAgg4
  have z4 := Tryz.sizeOf4
  have a45 := Tryz.isAgg45
  have z45 := Tryz.sizeOf45
  have hS : Tryz.prog.underlying 47 = some (.struct (Tryz.prog.fieldsOf 47)) := by kernel_rfl
  have hp : Tryz.prog.stoodInHeld 47 = false := by kernel_rfl
  rw [run_eql_struct, show (10000 : Nat) = 9999 + 1 from rfl, run_equalIn_agg w 9999 47 _ _ hS hp]
  simp only [Program.fieldsOf, Tryz.underlying47, prtV, prtB]
  go_simp
  by_cases h1 : p.stock = q.stock
  · by_cases h2 : p.nlo = q.nlo
    · by_cases h3 : p.nhi = q.nhi
      · by_cases h4 : p.fig = q.fig
        · by_cases h5 : p.full = q.full
          · by_cases h6 : p.minute = q.minute
            · by_cases h7 : p.llo = q.llo
              · by_cases h8 : p.lhi = q.lhi <;> simp [h1, h2, h3, h4, h5, h6, h7, h8]
              · simp [h1, h2, h3, h4, h5, h6, h7]
            · simp [h1, h2, h3, h4, h5, h6]
          · simp [h1, h2, h3, h4, h5]
        · simp [h1, h2, h3, h4]
      · simp [h1, h2, h3]
    · simp [h1, h2]
  · simp [h1]
theorem q_eql47 {Γ : Cx} {σ : St} {o : Oper} {R : Rel} {x y : Operand} {t' : TypeId} {p q : Prt} (h : o.op = .binOp .eql 47 x y t') (hx : σ.ev x = some (true, .d (.agg (prtE p)))) (hy : σ.ev y = some (true, .d (.agg (prtE q)))) :
    QV Γ Tryz.prog σ o R (.d (.bool ((prtB p q)))) := fun A w F hs => by
  obtain ⟨vs, e1, h1, _⟩ := hs.ev hx
  obtain ⟨us, e2, h2, _⟩ := hs.ev hy
  have f1 := rep_prt h1
  have f2 := rep_prt h2
  subst f1 f2
  exact ⟨.bool ((prtB p q)), rfl, fun w' _ => by
    simp only [execOp, h, e1, e2, Sem.run_bind, run_eqGuard_agg w' .eql 47 x y _ _ (show Tryz.prog.eqGuardType Tryz.prog.depth 47 = false by kernel_rfl), Result.andThen_ok]
    rw [show (prtV p).toList.toArray = prtV p from rfl, show (prtV q).toList.toArray = prtV q from rfl, eqveql47]
    rfl⟩
end Go.Proofs.YtplpcamcnppibaaGreatDoor
namespace Go.Proofs.YtplpcamcnppibaaGreatDoor
open Go.RowKit
set_option maxRecDepth 20000
set_option linter.all false
set_option maxHeartbeats 4000000
abbrev earlyS : List UInt8 := [64, 53, 32, 65, 66, 32, 51, 115, 32, 56, 46, 50, 32, 56, 46, 53, 32, 76, 49, 45, 50, 32, 67, 32, 48, 46, 49, 32, 33, 32, 64, 55, 32, 48, 46, 55, 32, 63]
abbrev lateS : List UInt8 := [64, 53, 32, 65, 66, 32, 51, 115, 32, 56, 46, 50, 32, 76, 49, 45, 50, 32, 64, 55, 32, 56, 46, 53, 32, 67, 32, 48, 46, 49, 32, 33, 32, 64, 56, 32, 48, 46, 55, 32, 63]
abbrev wrongS : List UInt8 := [65, 66, 32, 56, 46, 50, 32, 51, 46, 48, 32, 56, 46, 53]
abbrev earlyL : List Prt := [⟨0, 3, 3, 66, false, 5, 0, 0⟩, ⟨0, 1, 1, 69, false, 5, 0, 0⟩, ⟨1, 1, 1, 1, false, 5, 1, 2⟩, ⟨1, 1, 4, 7, false, 7, 1, 2⟩]
abbrev lateL0 : List Prt := [⟨0, 3, 3, 66, false, 5, 0, 0⟩, ⟨0, 1, 1, 69, false, 7, 1, 2⟩, ⟨1, 1, 1, 1, false, 7, 1, 2⟩, ⟨1, 1, 4, 7, false, 8, 1, 2⟩]
abbrev wrongL : List Prt := [⟨0, 1, 1, 66, false, 0, 0, 0⟩, ⟨0, 1, 1, 24, false, 0, 0, 0⟩, ⟨0, 1, 1, 69, false, 0, 0, 0⟩]
theorem two_valid : checkT twoB = 0 := by kernel_rfl
theorem e_read : readI twoB earlyS = (earlyL, 0) := by rw [← ref_read two_valid]; kernel_rfl
theorem l_read : readI twoB lateS = (lateL0, 0) := by rw [← ref_read two_valid]; kernel_rfl
theorem w_read : readI twoB wrongS = (wrongL, 0) := by rw [← ref_read two_valid]; kernel_rfl
theorem e_prices : pricesI twoB earlyS = ([(306, 306), (309, 309), (81, 81), (87, 87)], 0) := by unfold pricesI; rw [e_read]; kernel_rfl
theorem l_minutes : minutesI twoB lateS = ([(5, 5), (5, 6), (5, 6), (6, 7)], 0) := by unfold minutesI; rw [l_read]; kernel_rfl
theorem l_find : findI twoB lateS ⟨0, 309, 1, 6, 9⟩ = ([1], 0) := by unfold findI; rw [l_read]; kernel_rfl
theorem w_mis : misI twoB wrongS = ([1], 0) := by unfold misI; rw [w_read]; kernel_rfl
theorem e_prove : proveI twoB earlyS [306, 309, 81, 87] = true := by unfold proveI; rw [e_read]; kernel_rfl
theorem e_write : writeI twoB [⟨0, 3, 306, 5⟩, ⟨0, 1, 309, 5⟩, ⟨1, 1, 81, 7⟩] = ([64, 53, 32, 65, 66, 32, 51, 115, 32, 56, 46, 50, 32, 56, 46, 53, 32, 64, 55, 32, 67, 32, 48, 46, 49], 0) := by kernel_rfl
theorem two_names : NamesOK twoB := fun s hs => by
  simp only [twoB, List.mem_cons, List.not_mem_nil, or_false] at hs
  rcases hs with rfl | rfl <;> simp
theorem qv_eq {Γ : Cx} {P : Program} {σ : St} {o : Oper} {R : Rel} {tv tv' : TV} (h : QV Γ P σ o R tv) (e : tv = tv') : QV Γ P σ o R tv' := e ▸ h
abbrev lateSlp : Slp := ⟨0, 309, 1, 6, 9⟩
theorem refRead_ok (b : Brd) (s : List UInt8) (hbl : b.stocks.length ≤ 1000) (h5 : s.length ≤ 4294967000) : PureAt Tryz.prog 48 [brdD b, strD s] (.tup [prtsD (refReadI b s).1, .int .i64 (refReadI b s).2]) := PureAt.of_eff (ds := [brdD b, strD s]) (refRead_eff b s hbl h5)
theorem read_law (b : Brd) (s : List UInt8) (hN : NamesOK b) (h5 : s.length ≤ 4294967000) : PureAt Tryz.prog 20 [brdD b, strD s] (.tup [prtsD (readI b s).1, .int .i64 (readI b s).2]) := by
  refine PureAt.of_awp' Tryz.func20 rfl (by kernel_rfl) rfl fun hlen Γ hn hl => ?_
  have hlb := hlen.1 3 (b.stocks.map stkE) (by simp)
  simp only [List.length_map] at hlb
  refine awp_seq ?_
  refine awp_region ?_
  refine stepW (s_box 2 rfl rfl rfl (nb hn rfl) rfl rfl) fun b2 => ?_
  refine sq rfl rfl hn rfl (q_assign rfl rfl) ?_
  refine sq rfl rfl hn rfl (q_assign rfl rfl) ?_
  refine run_nil ?_
  refine aend_then ?_
  refine awp_seq ?_
  refine awp_seq ?_
  refine awp_region ?_
  refine sq rfl rfl hn rfl (q_loadAd rfl rfl (id := 2) rfl Tryz.underlying24 rfl sz24 rfl rfl sees0) ?_
  refine stepW (s_call [] (fun _ => fault_ok _ (by assumption)) rfl (guard_none rfl) rfl (nb hn rfl) (fun _ => trivial) rfl rfl (.refl _)) fun _ => ?_
  refine sq rfl rfl hn rfl (q_assign rfl rfl) ?_
  refine run_nil ?_
  refine aend_then ?_
  refine awp_seq ?_
  refine awp_region ?_
  refine sq rfl rfl hn rfl (q_move rfl rfl) ?_
  refine sq rfl rfl hn rfl (q_neq rfl rfl rfl) ?_
  refine run_nil ?_
  refine aend_then ?_
  refine awp_cond rfl (fun hb0 => ?_) (fun hb0 => ?_)
  · skip
    have q0 : (checkT b != 0) = true := hb0
    have e1 : readI b s = ([], checkT b) := by unfold readI; rw [q0]; rfl
    rw [e1]
    refine awp_seq ?_
    refine awp_region ?_
    refine sq rfl rfl hn rfl (q_move rfl rfl) ?_
    refine sq rfl rfl hn rfl (q_assign rfl rfl) ?_
    refine sq rfl rfl hn rfl (q_assign rfl rfl) ?_
    refine run_nil ?_
    refine aend_then ?_
    refine awp_ret ?_
    refine aend_then_ret ?_
    refine ret_le (ret_2 (.inl rfl) hl rfl (.tmp rfl) (.tmp rfl)) ?_
    exact .tup (.cons (.nil 8) (.refl _))
  · skip
    have q0 : checkT b = 0 := by simpa using hb0
    have hn4 := (valid_of q0).n4
    refine awp_skip ?_
    refine aend_then ?_
    refine awp_seq ?_
    refine awp_region ?_
    refine sq rfl rfl hn rfl (q_loadAd rfl rfl (id := 2) rfl Tryz.underlying24 rfl sz24 rfl rfl sees0) ?_
    refine sq rfl rfl hn rfl (q_move rfl rfl) ?_
    refine stepW (s_call [] (fun _ => (by have h := refRead_ok b s (by omega) h5; rw [ref_read q0] at h; exact h)) rfl (guard_none rfl) rfl (nb hn rfl) (fun _ => trivial) rfl rfl (.refl _)) fun _ => ?_
    refine sq rfl rfl hn rfl (q_move rfl rfl) ?_
    refine sq rfl rfl hn rfl (q_extractd rfl rfl rfl) ?_
    refine sq rfl rfl hn rfl (q_extractd rfl rfl rfl) ?_
    refine sq rfl rfl hn rfl (q_assign rfl rfl) ?_
    refine sq rfl rfl hn rfl (q_assign rfl rfl) ?_
    refine run_nil ?_
    refine aend_then ?_
    refine awp_seq ?_
    refine awp_region ?_
    refine sq rfl rfl hn rfl (q_move rfl rfl) ?_
    refine sq rfl rfl hn rfl (q_move rfl rfl) ?_
    refine sq rfl rfl hn rfl (q_assign rfl rfl) ?_
    refine sq rfl rfl hn rfl (q_assign rfl rfl) ?_
    refine run_nil ?_
    refine aend_then ?_
    refine awp_ret ?_
    exact ret_2 (.inl rfl) hl rfl (.tmp rfl) (.tmp rfl)
theorem awake_eff  : EffAt Tryz.prog 17 [] [] (X := Unit) (fun _ => .d (.bool true)) (fun _ => []) := by
  refine EffAt.of_awp Tryz.func17 rfl (by kernel_rfl) rfl fun Γ hn => ?_
  refine awp_seq ?_
  refine awp_region ?_
  refine sq rfl rfl hn rfl (q_assign rfl rfl) ?_
  refine run_nil ?_
  refine aend_then ?_
  refine awp_seq ?_
  refine awp_region ?_
  refine stepW (s_call [] (fun _ => two_ok) rfl (guard_none rfl) rfl (nb hn rfl) (fun _ => trivial) rfl rfl (.refl _)) fun _ => ?_
  refine stepW (s_call [] (fun _ => (by have h := Read_ok twoB earlyS two_names (by decide); rw [e_read] at h; exact h)) rfl (guard_none rfl) rfl (nb hn rfl) (fun _ => trivial) rfl rfl (.refl _)) fun _ => ?_
  refine sq rfl rfl hn rfl (q_move rfl rfl) ?_
  refine sq rfl rfl hn rfl (q_extractd rfl rfl rfl) ?_
  refine sq rfl rfl hn rfl (q_extractd rfl rfl rfl) ?_
  refine sq rfl rfl hn rfl (q_assign rfl rfl) ?_
  refine sq rfl rfl hn rfl (q_assign rfl rfl) ?_
  refine run_nil ?_
  refine aend_then ?_
  refine awp_seq ?_
  refine awp_region ?_
  refine stepW (s_call [] (fun _ => two_ok) rfl (guard_none rfl) rfl (nb hn rfl) (fun _ => trivial) rfl rfl (.refl _)) fun _ => ?_
  refine stepW (s_call [] (fun _ => (by have h := Prices_ok twoB earlyS two_names (by decide); rw [e_prices] at h; exact h)) rfl (guard_none rfl) rfl (nb hn rfl) (fun _ => trivial) rfl rfl (.refl _)) fun _ => ?_
  refine sq rfl rfl hn rfl (q_move rfl rfl) ?_
  refine sq rfl rfl hn rfl (q_extractd rfl rfl rfl) ?_
  refine sq rfl rfl hn rfl (q_extractd rfl rfl rfl) ?_
  refine sq rfl rfl hn rfl (q_assign rfl rfl) ?_
  refine sq rfl rfl hn rfl (q_assign rfl rfl) ?_
  refine run_nil ?_
  refine aend_then ?_
  refine awp_seq ?_
  refine awp_region ?_
  refine stepW (s_call [] (fun _ => two_ok) rfl (guard_none rfl) rfl (nb hn rfl) (fun _ => trivial) rfl rfl (.refl _)) fun _ => ?_
  refine stepW (s_call [] (fun _ => (by have h := Minutes_ok twoB lateS two_names (by decide); rw [l_minutes] at h; exact h)) rfl (guard_none rfl) rfl (nb hn rfl) (fun _ => trivial) rfl rfl (.refl _)) fun _ => ?_
  refine sq rfl rfl hn rfl (q_move rfl rfl) ?_
  refine sq rfl rfl hn rfl (q_extractd rfl rfl rfl) ?_
  refine sq rfl rfl hn rfl (q_extractd rfl rfl rfl) ?_
  refine sq rfl rfl hn rfl (q_assign rfl rfl) ?_
  refine sq rfl rfl hn rfl (q_assign rfl rfl) ?_
  refine run_nil ?_
  refine aend_then ?_
  refine awp_seq ?_
  refine awp_region ?_
  refine stepW (s_call [] (fun _ => two_ok) rfl (guard_none rfl) rfl (nb hn rfl) (fun _ => trivial) rfl rfl (.refl _)) fun _ => ?_
  refine stepW (s_call [] (fun _ => between_ok _ _) rfl (guard_none rfl) rfl (nb hn rfl) (fun _ => trivial) rfl rfl (.refl _)) fun _ => ?_
  refine sq rfl rfl hn rfl (q_buildd rfl bt61 rfl rfl rfl rfl rfl) ?_
  refine stepW (s_call [] (fun _ => (by have h := Find_ok twoB lateS lateSlp two_names (by decide); rw [l_find] at h; exact h)) rfl (guard_none rfl) rfl (nb hn rfl) (fun _ => trivial) rfl rfl (by first | exact .refl _ | (repeat (first | exact .refl _ | exact .nil _ | refine .cons ?_ ?_ | refine .agg ?_ | refine .tup ?_)))) fun _ => ?_
  refine sq rfl rfl hn rfl (q_move rfl rfl) ?_
  refine sq rfl rfl hn rfl (q_extractd rfl rfl rfl) ?_
  refine sq rfl rfl hn rfl (q_extractd rfl rfl rfl) ?_
  refine sq rfl rfl hn rfl (q_assign rfl rfl) ?_
  refine sq rfl rfl hn rfl (q_assign rfl rfl) ?_
  refine run_nil ?_
  refine aend_then ?_
  refine awp_seq ?_
  refine awp_region ?_
  refine stepW (s_call [] (fun _ => two_ok) rfl (guard_none rfl) rfl (nb hn rfl) (fun _ => trivial) rfl rfl (.refl _)) fun _ => ?_
  refine stepW (s_call [] (fun _ => (by have h := Misprints_ok twoB wrongS two_names (by decide); rw [w_mis] at h; exact h)) rfl (guard_none rfl) rfl (nb hn rfl) (fun _ => trivial) rfl rfl (.refl _)) fun _ => ?_
  refine sq rfl rfl hn rfl (q_move rfl rfl) ?_
  refine sq rfl rfl hn rfl (q_extractd rfl rfl rfl) ?_
  refine sq rfl rfl hn rfl (q_extractd rfl rfl rfl) ?_
  refine sq rfl rfl hn rfl (q_assign rfl rfl) ?_
  refine sq rfl rfl hn rfl (q_assign rfl rfl) ?_
  refine run_nil ?_
  refine aend_then ?_
  refine awp_seq ?_
  refine awp_region ?_
  refine stepW (s_call [] (fun _ => two_ok) rfl (guard_none rfl) rfl (nb hn rfl) (fun _ => trivial) rfl rfl (.refl _)) fun _ => ?_
  refine sq rfl rfl hn rfl (q_buildd rfl bt115 rfl rfl rfl rfl rfl) ?_
  refine sq rfl rfl hn rfl (q_buildd rfl bt115 rfl rfl rfl rfl rfl) ?_
  refine sq rfl rfl hn rfl (q_buildd rfl bt115 rfl rfl rfl rfl rfl) ?_
  refine stepW (s_buildSlice rfl rfl rfl (nb hn rfl) Tryz.underlying73 sz115 zr115 rfl rfl rfl (show _ = [.d (.int .i64 0), .d (.int .i64 0), .d (.int .i64 0), .d (.int .i64 0), .d (.int .i64 0), .d (.int .i64 0), .d (.int .i64 0), .d (.int .i64 0), .d (.int .i64 0), .d (.int .i64 0), .d (.int .i64 0), .d (.int .i64 0)] from by kernel_rfl) (by kernel_rfl) rfl rfl rfl rfl rfl) fun _ => ?_
  refine stepW (s_call [] (fun _ => (by have h := Write_ok twoB [⟨0, 3, 306, 5⟩, ⟨0, 1, 309, 5⟩, ⟨1, 1, 81, 7⟩] two_names; rw [e_write] at h; exact h)) rfl (guard_none rfl) rfl (nb hn rfl) (fun _ => trivial) rfl rfl (.refl _)) fun _ => ?_
  refine sq rfl rfl hn rfl (q_move rfl rfl) ?_
  refine sq rfl rfl hn rfl (q_extractd rfl rfl rfl) ?_
  refine sq rfl rfl hn rfl (q_extractd rfl rfl rfl) ?_
  refine sq rfl rfl hn rfl (q_assign rfl rfl) ?_
  refine sq rfl rfl hn rfl (q_assign rfl rfl) ?_
  refine run_nil ?_
  refine aend_then ?_
  refine awp_seq ?_
  refine d_start (W := fun b => True) fmo ?_
  refine d1q (i := 0) rfl (by as_aux_lemma => kernel_rfl) (fun _ _ _ _ h => h) rfl rfl hn rfl (q_move rfl rfl) ?_
  refine d1q (i := 1) rfl (by as_aux_lemma => kernel_rfl) (fun _ _ _ _ h => h) rfl rfl hn rfl (qv_eq (tv' := .d (.bool true)) (q_eql rfl rfl rfl) rfl) ?_
  refine d1q (i := 2) rfl (by as_aux_lemma => kernel_rfl) (fun _ _ _ _ h => h) rfl rfl hn rfl (q_move rfl rfl) ?_
  refine d1g (i := 3) [] rfl (by as_aux_lemma => kernel_rfl) (fun _ _ _ _ h => h) (guard_some rfl rfl rfl) rfl hn rfl (fun hc => trivial) (fun hc => q_move rfl rfl) ?_
  refine d1g (i := 4) [(52, _)] rfl (by as_aux_lemma => kernel_rfl) (fun _ _ _ _ h => h) (guard_some rfl rfl rfl) rfl hn rfl (fun hc => ⟨⟨_, rfl, hc⟩, trivial⟩) (fun hc => q_len rfl rfl Tryz.underlying27) ?_
  refine d1g (i := 5) [(53, _)] rfl (by as_aux_lemma => kernel_rfl) (fun _ _ _ _ h => h) (guard_some rfl rfl rfl) rfl hn rfl (fun hc => ⟨⟨_, rfl, hc⟩, trivial⟩) (fun hc => qv_eq (tv' := .d (.bool true)) (q_eql rfl rfl rfl) rfl) ?_
  refine d1q (i := 6) rfl (by as_aux_lemma => kernel_rfl) (fun _ _ _ _ h => h) rfl rfl hn rfl (qv_eq (tv' := .d (.bool true)) (q_and rfl rfl rfl (by intro hB; first | (rw [hB]; rfl) | (rw [hB, hc]; rfl) | simp_all)) rfl) ?_
  refine d1q (i := 7) rfl (by as_aux_lemma => kernel_rfl) (fun _ _ _ _ h => h) rfl rfl hn rfl (q_move rfl rfl) ?_
  refine d1g (i := 8) [] rfl (by as_aux_lemma => kernel_rfl) (fun _ _ _ _ h => h) (guard_some rfl rfl rfl) rfl hn rfl (fun hc => trivial) (fun hc => q_move rfl rfl) ?_
  refine d1g (i := 9) [(57, _)] rfl (by as_aux_lemma => kernel_rfl) (fun _ _ _ _ h => h) (guard_some rfl rfl rfl) rfl hn rfl (fun hc => ⟨⟨_, rfl, hc⟩, trivial⟩) (fun hc => q_index (i := 3) rfl rfl rfl Tryz.underlying27 sz47 rfl rfl) ?_
  refine d1g (i := 10) [(58, _)] rfl (by as_aux_lemma => kernel_rfl) (fun _ _ _ _ h => h) (guard_some rfl rfl rfl) rfl hn rfl (fun hc => ⟨⟨_, rfl, hc⟩, trivial⟩) (fun hc => q_loadpA rfl rfl Tryz.underlying47 rfl sz47 rfl rfl seesFA) ?_
  refine d1_of_d2 ?_
  refine d2_one (i := 11) (by as_aux_lemma => kernel_rfl) rfl (s_call [] (fun hc => between_ok _ _) rfl (guard_some rfl rfl rfl) rfl (nb hn rfl) (fun hc => trivial) rfl rfl (.refl _)) fun _ => ?_
  refine d2_of_d1 ?_
  refine d1_of_d2 ?_
  refine d2_one (i := 12) (by as_aux_lemma => kernel_rfl) rfl (s_call [] (fun hc => between_ok _ _) rfl (guard_some rfl rfl rfl) rfl (nb hn rfl) (fun hc => trivial) rfl rfl (.refl _)) fun _ => ?_
  refine d2_of_d1 ?_
  refine d1g (i := 13) [(60, _), (61, _)] rfl (by as_aux_lemma => kernel_rfl) (fun _ _ _ _ h => h) (guard_some rfl rfl rfl) rfl hn rfl (fun hc => ⟨⟨_, rfl, hc⟩, ⟨_, rfl, hc⟩, trivial⟩) (fun hc => q_buildd rfl bt47 rfl rfl rfl rfl rfl) ?_
  refine d1g (i := 14) [(59, _), (62, _)] rfl (by as_aux_lemma => kernel_rfl) (fun _ _ _ _ h => h) (guard_some rfl rfl rfl) rfl hn rfl (fun hc => ⟨⟨_, rfl, hc⟩, ⟨_, rfl, hc⟩, trivial⟩) (fun hc => qv_eq (tv' := .d (.bool true)) (q_eql47 (p := ⟨1, 1, 4, 7, false, 7, 1, 2⟩) (q := ⟨1, 1, 4, 7, false, 7, 1, 2⟩) rfl rfl rfl) rfl) ?_
  refine d1q (i := 15) rfl (by as_aux_lemma => kernel_rfl) (fun _ _ _ _ h => h) rfl rfl hn rfl (qv_eq (tv' := .d (.bool true)) (q_and rfl rfl rfl (by intro hB; first | (rw [hB]; rfl) | (rw [hB, hc]; rfl) | simp_all)) rfl) ?_
  refine d1q (i := 16) rfl (by as_aux_lemma => kernel_rfl) (fun _ _ _ _ h => h) rfl rfl hn rfl (q_move rfl rfl) ?_
  refine d1g (i := 17) [] rfl (by as_aux_lemma => kernel_rfl) (fun _ _ _ _ h => h) (guard_some rfl rfl rfl) rfl hn rfl (fun hc => trivial) (fun hc => q_move rfl rfl) ?_
  refine d1g (i := 18) [(66, _)] rfl (by as_aux_lemma => kernel_rfl) (fun _ _ _ _ h => h) (guard_some rfl rfl rfl) rfl hn rfl (fun hc => ⟨⟨_, rfl, hc⟩, trivial⟩) (fun hc => qv_eq (tv' := .d (.bool true)) (q_eql rfl rfl rfl) rfl) ?_
  refine d1q (i := 19) rfl (by as_aux_lemma => kernel_rfl) (fun _ _ _ _ h => h) rfl rfl hn rfl (qv_eq (tv' := .d (.bool true)) (q_and rfl rfl rfl (by intro hB; first | (rw [hB]; rfl) | (rw [hB, hc]; rfl) | simp_all)) rfl) ?_
  refine d1q (i := 20) rfl (by as_aux_lemma => kernel_rfl) (fun _ _ _ _ h => h) rfl rfl hn rfl (q_move rfl rfl) ?_
  refine d1g (i := 21) [] rfl (by as_aux_lemma => kernel_rfl) (fun _ _ _ _ h => h) (guard_some rfl rfl rfl) rfl hn rfl (fun hc => trivial) (fun hc => q_move rfl rfl) ?_
  refine d1g (i := 22) [(70, _)] rfl (by as_aux_lemma => kernel_rfl) (fun _ _ _ _ h => h) (guard_some rfl rfl rfl) rfl hn rfl (fun hc => ⟨⟨_, rfl, hc⟩, trivial⟩) (fun hc => q_len rfl rfl Tryz.underlying48) ?_
  refine d1g (i := 23) [(71, _)] rfl (by as_aux_lemma => kernel_rfl) (fun _ _ _ _ h => h) (guard_some rfl rfl rfl) rfl hn rfl (fun hc => ⟨⟨_, rfl, hc⟩, trivial⟩) (fun hc => qv_eq (tv' := .d (.bool true)) (q_eql rfl rfl rfl) rfl) ?_
  refine d1q (i := 24) rfl (by as_aux_lemma => kernel_rfl) (fun _ _ _ _ h => h) rfl rfl hn rfl (qv_eq (tv' := .d (.bool true)) (q_and rfl rfl rfl (by intro hB; first | (rw [hB]; rfl) | (rw [hB, hc]; rfl) | simp_all)) rfl) ?_
  refine d1q (i := 25) rfl (by as_aux_lemma => kernel_rfl) (fun _ _ _ _ h => h) rfl rfl hn rfl (q_move rfl rfl) ?_
  refine d1g (i := 26) [] rfl (by as_aux_lemma => kernel_rfl) (fun _ _ _ _ h => h) (guard_some rfl rfl rfl) rfl hn rfl (fun hc => trivial) (fun hc => q_move rfl rfl) ?_
  refine d1g (i := 27) [(75, _)] rfl (by as_aux_lemma => kernel_rfl) (fun _ _ _ _ h => h) (guard_some rfl rfl rfl) rfl hn rfl (fun hc => ⟨⟨_, rfl, hc⟩, trivial⟩) (fun hc => q_index (i := 0) rfl rfl rfl Tryz.underlying48 sz45 rfl rfl) ?_
  refine d1g (i := 28) [(76, _)] rfl (by as_aux_lemma => kernel_rfl) (fun _ _ _ _ h => h) (guard_some rfl rfl rfl) rfl hn rfl (fun hc => ⟨⟨_, rfl, hc⟩, trivial⟩) (fun hc => q_loadpA rfl rfl Tryz.underlying45 rfl sz45 rfl rfl seesFA) ?_
  refine d1_of_d2 ?_
  refine d2_one (i := 29) (by as_aux_lemma => kernel_rfl) rfl (s_call [] (fun hc => between_ok _ _) rfl (guard_some rfl rfl rfl) rfl (nb hn rfl) (fun hc => trivial) rfl rfl (.refl _)) fun _ => ?_
  refine d2_of_d1 ?_
  refine d1g (i := 30) [(77, _), (78, _)] rfl (by as_aux_lemma => kernel_rfl) (fun _ _ _ _ h => h) (guard_some rfl rfl rfl) rfl hn rfl (fun hc => ⟨⟨_, rfl, hc⟩, ⟨_, rfl, hc⟩, trivial⟩) (fun hc => qv_eq (tv' := .d (.bool true)) (q_eql45 rfl rfl rfl) rfl) ?_
  refine d1q (i := 31) rfl (by as_aux_lemma => kernel_rfl) (fun _ _ _ _ h => h) rfl rfl hn rfl (qv_eq (tv' := .d (.bool true)) (q_and rfl rfl rfl (by intro hB; first | (rw [hB]; rfl) | (rw [hB, hc]; rfl) | simp_all)) rfl) ?_
  refine d1q (i := 32) rfl (by as_aux_lemma => kernel_rfl) (fun _ _ _ _ h => h) rfl rfl hn rfl (q_move rfl rfl) ?_
  refine d1g (i := 33) [] rfl (by as_aux_lemma => kernel_rfl) (fun _ _ _ _ h => h) (guard_some rfl rfl rfl) rfl hn rfl (fun hc => trivial) (fun hc => q_move rfl rfl) ?_
  refine d1g (i := 34) [(82, _)] rfl (by as_aux_lemma => kernel_rfl) (fun _ _ _ _ h => h) (guard_some rfl rfl rfl) rfl hn rfl (fun hc => ⟨⟨_, rfl, hc⟩, trivial⟩) (fun hc => q_index (i := 3) rfl rfl rfl Tryz.underlying48 sz45 rfl rfl) ?_
  refine d1g (i := 35) [(83, _)] rfl (by as_aux_lemma => kernel_rfl) (fun _ _ _ _ h => h) (guard_some rfl rfl rfl) rfl hn rfl (fun hc => ⟨⟨_, rfl, hc⟩, trivial⟩) (fun hc => q_loadpA rfl rfl Tryz.underlying45 rfl sz45 rfl rfl seesFA) ?_
  refine d1_of_d2 ?_
  refine d2_one (i := 36) (by as_aux_lemma => kernel_rfl) rfl (s_call [] (fun hc => between_ok _ _) rfl (guard_some rfl rfl rfl) rfl (nb hn rfl) (fun hc => trivial) rfl rfl (.refl _)) fun _ => ?_
  refine d2_of_d1 ?_
  refine d1g (i := 37) [(84, _), (85, _)] rfl (by as_aux_lemma => kernel_rfl) (fun _ _ _ _ h => h) (guard_some rfl rfl rfl) rfl hn rfl (fun hc => ⟨⟨_, rfl, hc⟩, ⟨_, rfl, hc⟩, trivial⟩) (fun hc => qv_eq (tv' := .d (.bool true)) (q_eql45 rfl rfl rfl) rfl) ?_
  refine d1q (i := 38) rfl (by as_aux_lemma => kernel_rfl) (fun _ _ _ _ h => h) rfl rfl hn rfl (qv_eq (tv' := .d (.bool true)) (q_and rfl rfl rfl (by intro hB; first | (rw [hB]; rfl) | (rw [hB, hc]; rfl) | simp_all)) rfl) ?_
  refine d1q (i := 39) rfl (by as_aux_lemma => kernel_rfl) (fun _ _ _ _ h => h) rfl rfl hn rfl (q_move rfl rfl) ?_
  refine d1g (i := 40) [] rfl (by as_aux_lemma => kernel_rfl) (fun _ _ _ _ h => h) (guard_some rfl rfl rfl) rfl hn rfl (fun hc => trivial) (fun hc => q_move rfl rfl) ?_
  refine d1g (i := 41) [(89, _)] rfl (by as_aux_lemma => kernel_rfl) (fun _ _ _ _ h => h) (guard_some rfl rfl rfl) rfl hn rfl (fun hc => ⟨⟨_, rfl, hc⟩, trivial⟩) (fun hc => qv_eq (tv' := .d (.bool true)) (q_eql rfl rfl rfl) rfl) ?_
  refine d1q (i := 42) rfl (by as_aux_lemma => kernel_rfl) (fun _ _ _ _ h => h) rfl rfl hn rfl (qv_eq (tv' := .d (.bool true)) (q_and rfl rfl rfl (by intro hB; first | (rw [hB]; rfl) | (rw [hB, hc]; rfl) | simp_all)) rfl) ?_
  refine d1q (i := 43) rfl (by as_aux_lemma => kernel_rfl) (fun _ _ _ _ h => h) rfl rfl hn rfl (q_move rfl rfl) ?_
  refine d1g (i := 44) [] rfl (by as_aux_lemma => kernel_rfl) (fun _ _ _ _ h => h) (guard_some rfl rfl rfl) rfl hn rfl (fun hc => trivial) (fun hc => q_move rfl rfl) ?_
  refine d1g (i := 45) [(93, _)] rfl (by as_aux_lemma => kernel_rfl) (fun _ _ _ _ h => h) (guard_some rfl rfl rfl) rfl hn rfl (fun hc => ⟨⟨_, rfl, hc⟩, trivial⟩) (fun hc => q_len rfl rfl Tryz.underlying48) ?_
  refine d1g (i := 46) [(94, _)] rfl (by as_aux_lemma => kernel_rfl) (fun _ _ _ _ h => h) (guard_some rfl rfl rfl) rfl hn rfl (fun hc => ⟨⟨_, rfl, hc⟩, trivial⟩) (fun hc => qv_eq (tv' := .d (.bool true)) (q_eql rfl rfl rfl) rfl) ?_
  refine d1q (i := 47) rfl (by as_aux_lemma => kernel_rfl) (fun _ _ _ _ h => h) rfl rfl hn rfl (qv_eq (tv' := .d (.bool true)) (q_and rfl rfl rfl (by intro hB; first | (rw [hB]; rfl) | (rw [hB, hc]; rfl) | simp_all)) rfl) ?_
  refine d1q (i := 48) rfl (by as_aux_lemma => kernel_rfl) (fun _ _ _ _ h => h) rfl rfl hn rfl (q_move rfl rfl) ?_
  refine d1g (i := 49) [] rfl (by as_aux_lemma => kernel_rfl) (fun _ _ _ _ h => h) (guard_some rfl rfl rfl) rfl hn rfl (fun hc => trivial) (fun hc => q_move rfl rfl) ?_
  refine d1g (i := 50) [(98, _)] rfl (by as_aux_lemma => kernel_rfl) (fun _ _ _ _ h => h) (guard_some rfl rfl rfl) rfl hn rfl (fun hc => ⟨⟨_, rfl, hc⟩, trivial⟩) (fun hc => q_index (i := 1) rfl rfl rfl Tryz.underlying48 sz45 rfl rfl) ?_
  refine d1g (i := 51) [(99, _)] rfl (by as_aux_lemma => kernel_rfl) (fun _ _ _ _ h => h) (guard_some rfl rfl rfl) rfl hn rfl (fun hc => ⟨⟨_, rfl, hc⟩, trivial⟩) (fun hc => q_loadpA rfl rfl Tryz.underlying45 rfl sz45 rfl rfl seesFA) ?_
  refine d1_of_d2 ?_
  refine d2_one (i := 52) (by as_aux_lemma => kernel_rfl) rfl (s_call [] (fun hc => between_ok _ _) rfl (guard_some rfl rfl rfl) rfl (nb hn rfl) (fun hc => trivial) rfl rfl (.refl _)) fun _ => ?_
  refine d2_of_d1 ?_
  refine d1g (i := 53) [(100, _), (101, _)] rfl (by as_aux_lemma => kernel_rfl) (fun _ _ _ _ h => h) (guard_some rfl rfl rfl) rfl hn rfl (fun hc => ⟨⟨_, rfl, hc⟩, ⟨_, rfl, hc⟩, trivial⟩) (fun hc => qv_eq (tv' := .d (.bool true)) (q_eql45 rfl rfl rfl) rfl) ?_
  refine d1q (i := 54) rfl (by as_aux_lemma => kernel_rfl) (fun _ _ _ _ h => h) rfl rfl hn rfl (qv_eq (tv' := .d (.bool true)) (q_and rfl rfl rfl (by intro hB; first | (rw [hB]; rfl) | (rw [hB, hc]; rfl) | simp_all)) rfl) ?_
  refine d1q (i := 55) rfl (by as_aux_lemma => kernel_rfl) (fun _ _ _ _ h => h) rfl rfl hn rfl (q_move rfl rfl) ?_
  refine d1g (i := 56) [] rfl (by as_aux_lemma => kernel_rfl) (fun _ _ _ _ h => h) (guard_some rfl rfl rfl) rfl hn rfl (fun hc => trivial) (fun hc => q_move rfl rfl) ?_
  refine d1g (i := 57) [(105, _)] rfl (by as_aux_lemma => kernel_rfl) (fun _ _ _ _ h => h) (guard_some rfl rfl rfl) rfl hn rfl (fun hc => ⟨⟨_, rfl, hc⟩, trivial⟩) (fun hc => q_index (i := 3) rfl rfl rfl Tryz.underlying48 sz45 rfl rfl) ?_
  refine d1g (i := 58) [(106, _)] rfl (by as_aux_lemma => kernel_rfl) (fun _ _ _ _ h => h) (guard_some rfl rfl rfl) rfl hn rfl (fun hc => ⟨⟨_, rfl, hc⟩, trivial⟩) (fun hc => q_loadpA rfl rfl Tryz.underlying45 rfl sz45 rfl rfl seesFA) ?_
  refine d1_of_d2 ?_
  refine d2_one (i := 59) (by as_aux_lemma => kernel_rfl) rfl (s_call [] (fun hc => between_ok _ _) rfl (guard_some rfl rfl rfl) rfl (nb hn rfl) (fun hc => trivial) rfl rfl (.refl _)) fun _ => ?_
  refine d2_of_d1 ?_
  refine d1g (i := 60) [(107, _), (108, _)] rfl (by as_aux_lemma => kernel_rfl) (fun _ _ _ _ h => h) (guard_some rfl rfl rfl) rfl hn rfl (fun hc => ⟨⟨_, rfl, hc⟩, ⟨_, rfl, hc⟩, trivial⟩) (fun hc => qv_eq (tv' := .d (.bool true)) (q_eql45 rfl rfl rfl) rfl) ?_
  refine d1q (i := 61) rfl (by as_aux_lemma => kernel_rfl) (fun _ _ _ _ h => h) rfl rfl hn rfl (qv_eq (tv' := .d (.bool true)) (q_and rfl rfl rfl (by intro hB; first | (rw [hB]; rfl) | (rw [hB, hc]; rfl) | simp_all)) rfl) ?_
  refine d1q (i := 62) rfl (by as_aux_lemma => kernel_rfl) (fun _ _ _ _ h => h) rfl rfl hn rfl (q_move rfl rfl) ?_
  refine d1g (i := 63) [] rfl (by as_aux_lemma => kernel_rfl) (fun _ _ _ _ h => h) (guard_some rfl rfl rfl) rfl hn rfl (fun hc => trivial) (fun hc => q_move rfl rfl) ?_
  refine d1g (i := 64) [(112, _)] rfl (by as_aux_lemma => kernel_rfl) (fun _ _ _ _ h => h) (guard_some rfl rfl rfl) rfl hn rfl (fun hc => ⟨⟨_, rfl, hc⟩, trivial⟩) (fun hc => qv_eq (tv' := .d (.bool true)) (q_eql rfl rfl rfl) rfl) ?_
  refine d1q (i := 65) rfl (by as_aux_lemma => kernel_rfl) (fun _ _ _ _ h => h) rfl rfl hn rfl (qv_eq (tv' := .d (.bool true)) (q_and rfl rfl rfl (by intro hB; first | (rw [hB]; rfl) | (rw [hB, hc]; rfl) | simp_all)) rfl) ?_
  refine d1q (i := 66) rfl (by as_aux_lemma => kernel_rfl) (fun _ _ _ _ h => h) rfl rfl hn rfl (q_move rfl rfl) ?_
  refine d1g (i := 67) [] rfl (by as_aux_lemma => kernel_rfl) (fun _ _ _ _ h => h) (guard_some rfl rfl rfl) rfl hn rfl (fun hc => trivial) (fun hc => q_move rfl rfl) ?_
  refine d1_of_d2 ?_
  refine d2_one (i := 68) (by as_aux_lemma => kernel_rfl) rfl (s_guard (guard_some rfl rfl rfl) rfl (nb hn rfl) (s_buildSlice rfl rfl rfl (nb hn rfl) Tryz.underlying57 sz3 zr3 rfl rfl rfl (show _ = [.d (.int .i64 0)] from by kernel_rfl) (by kernel_rfl) rfl rfl rfl rfl rfl)) fun _ => ?_
  refine d2_of_d1 ?_
  refine d1_of_d2 ?_
  refine d2_one (i := 69) (by as_aux_lemma => kernel_rfl) rfl (s_call [(116, _), (117, _)] (fun hc => ints_ok [1] [1]) rfl (guard_some rfl rfl rfl) rfl (nb hn rfl) (fun hc => ⟨⟨_, rfl, hc⟩, ⟨_, rfl, hc⟩, trivial⟩) rfl rfl (.refl _)) fun _ => ?_
  refine d2_of_d1 ?_
  refine d1q (i := 70) rfl (by as_aux_lemma => kernel_rfl) (fun _ _ _ _ h => h) rfl rfl hn rfl (qv_eq (tv' := .d (.bool true)) (q_and rfl rfl rfl (by intro hB; first | (rw [hB]; rfl) | (rw [hB, hc]; rfl) | simp_all)) rfl) ?_
  refine d1q (i := 71) rfl (by as_aux_lemma => kernel_rfl) (fun _ _ _ _ h => h) rfl rfl hn rfl (q_move rfl rfl) ?_
  refine d1g (i := 72) [] rfl (by as_aux_lemma => kernel_rfl) (fun _ _ _ _ h => h) (guard_some rfl rfl rfl) rfl hn rfl (fun hc => trivial) (fun hc => q_move rfl rfl) ?_
  refine d1g (i := 73) [(121, _)] rfl (by as_aux_lemma => kernel_rfl) (fun _ _ _ _ h => h) (guard_some rfl rfl rfl) rfl hn rfl (fun hc => ⟨⟨_, rfl, hc⟩, trivial⟩) (fun hc => qv_eq (tv' := .d (.bool true)) (q_eql rfl rfl rfl) rfl) ?_
  refine d1q (i := 74) rfl (by as_aux_lemma => kernel_rfl) (fun _ _ _ _ h => h) rfl rfl hn rfl (qv_eq (tv' := .d (.bool true)) (q_and rfl rfl rfl (by intro hB; first | (rw [hB]; rfl) | (rw [hB, hc]; rfl) | simp_all)) rfl) ?_
  refine d1q (i := 75) rfl (by as_aux_lemma => kernel_rfl) (fun _ _ _ _ h => h) rfl rfl hn rfl (q_move rfl rfl) ?_
  refine d1g (i := 76) [] rfl (by as_aux_lemma => kernel_rfl) (fun _ _ _ _ h => h) (guard_some rfl rfl rfl) rfl hn rfl (fun hc => trivial) (fun hc => q_move rfl rfl) ?_
  refine d1_of_d2 ?_
  refine d2_one (i := 77) (by as_aux_lemma => kernel_rfl) rfl (s_guard (guard_some rfl rfl rfl) rfl (nb hn rfl) (s_buildSlice rfl rfl rfl (nb hn rfl) Tryz.underlying57 sz3 zr3 rfl rfl rfl (show _ = [.d (.int .i64 0)] from by kernel_rfl) (by kernel_rfl) rfl rfl rfl rfl rfl)) fun _ => ?_
  refine d2_of_d1 ?_
  refine d1_of_d2 ?_
  refine d2_one (i := 78) (by as_aux_lemma => kernel_rfl) rfl (s_call [(125, _), (126, _)] (fun hc => ints_ok [1] [1]) rfl (guard_some rfl rfl rfl) rfl (nb hn rfl) (fun hc => ⟨⟨_, rfl, hc⟩, ⟨_, rfl, hc⟩, trivial⟩) rfl rfl (.refl _)) fun _ => ?_
  refine d2_of_d1 ?_
  refine d1q (i := 79) rfl (by as_aux_lemma => kernel_rfl) (fun _ _ _ _ h => h) rfl rfl hn rfl (qv_eq (tv' := .d (.bool true)) (q_and rfl rfl rfl (by intro hB; first | (rw [hB]; rfl) | (rw [hB, hc]; rfl) | simp_all)) rfl) ?_
  refine d1q (i := 80) rfl (by as_aux_lemma => kernel_rfl) (fun _ _ _ _ h => h) rfl rfl hn rfl (q_move rfl rfl) ?_
  refine d1g (i := 81) [] rfl (by as_aux_lemma => kernel_rfl) (fun _ _ _ _ h => h) (guard_some rfl rfl rfl) rfl hn rfl (fun hc => trivial) (fun hc => q_move rfl rfl) ?_
  refine d1g (i := 82) [(130, _)] rfl (by as_aux_lemma => kernel_rfl) (fun _ _ _ _ h => h) (guard_some rfl rfl rfl) rfl hn rfl (fun hc => ⟨⟨_, rfl, hc⟩, trivial⟩) (fun hc => qv_eq (tv' := .d (.bool true)) (q_eql rfl rfl rfl) rfl) ?_
  refine d1q (i := 83) rfl (by as_aux_lemma => kernel_rfl) (fun _ _ _ _ h => h) rfl rfl hn rfl (qv_eq (tv' := .d (.bool true)) (q_and rfl rfl rfl (by intro hB; first | (rw [hB]; rfl) | (rw [hB, hc]; rfl) | simp_all)) rfl) ?_
  refine d1q (i := 84) rfl (by as_aux_lemma => kernel_rfl) (fun _ _ _ _ h => h) rfl rfl hn rfl (q_move rfl rfl) ?_
  refine d1g (i := 85) [] rfl (by as_aux_lemma => kernel_rfl) (fun _ _ _ _ h => h) (guard_some rfl rfl rfl) rfl hn rfl (fun hc => trivial) (fun hc => q_move rfl rfl) ?_
  refine d1g (i := 86) [(134, _)] rfl (by as_aux_lemma => kernel_rfl) (fun _ _ _ _ h => h) (guard_some rfl rfl rfl) rfl hn rfl (fun hc => ⟨⟨_, rfl, hc⟩, trivial⟩) (fun hc => qv_eq (tv' := .d (.bool true)) (q_eqlS rfl rfl rfl) rfl) ?_
  refine d1q (i := 87) rfl (by as_aux_lemma => kernel_rfl) (fun _ _ _ _ h => h) rfl rfl hn rfl (qv_eq (tv' := .d (.bool true)) (q_and rfl rfl rfl (by intro hB; first | (rw [hB]; rfl) | (rw [hB, hc]; rfl) | simp_all)) rfl) ?_
  refine d1q (i := 88) rfl (by as_aux_lemma => kernel_rfl) (fun _ _ _ _ h => h) rfl rfl hn rfl (q_move rfl rfl) ?_
  refine d1_of_d2 ?_
  refine d2_all 89 [90] (by kernel_rfl) ⟨?_, ?_, trivial⟩
  · skip
    refine br rfl (s_call [] (fun hc => two_ok) rfl (guard_some rfl rfl rfl) rfl (nb hn rfl) (fun hc => trivial) rfl rfl (.refl _)) fun _ => ?_
    refine d2_of_d1 ?_
    refine d1_of_d2 ?_
    refine d2_one (i := 90) (by as_aux_lemma => kernel_rfl) rfl (s_guard (guard_some rfl rfl rfl) rfl (nb hn rfl) (s_buildSlice rfl rfl rfl (nb hn rfl) Tryz.underlying57 sz3 zr3 rfl rfl rfl (show _ = [.d (.int .i64 0), .d (.int .i64 0), .d (.int .i64 0), .d (.int .i64 0)] from by kernel_rfl) (by kernel_rfl) rfl rfl rfl rfl rfl)) fun _ => ?_
    refine d2_of_d1 ?_
    refine d1_of_d2 ?_
    refine d2_one (i := 91) (by as_aux_lemma => kernel_rfl) rfl (s_call [(138, _), (139, _)] (fun hc => (by have h := ProveTruth_ok twoB earlyS [306, 309, 81, 87] two_names (by decide); rw [e_prove] at h; exact h)) rfl (guard_some rfl rfl rfl) rfl (nb hn rfl) (fun hc => ⟨⟨_, rfl, hc⟩, ⟨_, rfl, hc⟩, trivial⟩) rfl rfl (.refl _)) fun _ => ?_
    refine d2_of_d1 ?_
    refine d1q (i := 92) rfl (by as_aux_lemma => kernel_rfl) (fun _ _ _ _ h => h) rfl rfl hn rfl (qv_eq (tv' := .d (.bool true)) (q_and rfl rfl rfl (by intro hB; first | (rw [hB]; rfl) | (rw [hB, hc]; rfl) | simp_all)) rfl) ?_
    refine d1q (i := 93) rfl (by as_aux_lemma => kernel_rfl) (fun _ _ _ _ h => h) rfl rfl hn rfl (q_assign rfl rfl) ?_
    refine d1_of_d2 ?_
    refine d2_done (by as_aux_lemma => kernel_rfl) ?_
    refine aend_then ?_
    refine awp_ret ?_
    exact ret_E (.inl rfl) () ((hands_1 rfl (.tmp rfl)).eq (by rfl)) trivial
  · skip
    refine br rfl (s_guard (guard_some rfl rfl rfl) rfl (nb hn rfl) (s_buildSlice rfl rfl rfl (nb hn rfl) Tryz.underlying57 sz3 zr3 rfl rfl rfl (show _ = [.d (.int .i64 0), .d (.int .i64 0), .d (.int .i64 0), .d (.int .i64 0)] from by kernel_rfl) (by kernel_rfl) rfl rfl rfl rfl rfl)) fun _ => ?_
    refine d2_of_d1 ?_
    refine d1_of_d2 ?_
    refine d2_one (i := 89) (by kernel_rfl) rfl (s_call [] (fun hc => two_ok) rfl (guard_some rfl rfl rfl) rfl (nb hn rfl) (fun hc => trivial) rfl rfl (.refl _)) fun _ => ?_
    refine d2_of_d1 ?_
    refine d1_of_d2 ?_
    refine d2_one (i := 91) (by kernel_rfl) rfl (s_call [(138, _), (139, _)] (fun hc => (by have h := ProveTruth_ok twoB earlyS [306, 309, 81, 87] two_names (by decide); rw [e_prove] at h; exact h)) rfl (guard_some rfl rfl rfl) rfl (nb hn rfl) (fun hc => ⟨⟨_, rfl, hc⟩, ⟨_, rfl, hc⟩, trivial⟩) rfl rfl (.refl _)) fun _ => ?_
    refine d2_of_d1 ?_
    refine d1q (i := 92) rfl (by kernel_rfl) (fun _ _ _ _ h => h) rfl rfl hn rfl (qv_eq (tv' := .d (.bool true)) (q_and rfl rfl rfl (by intro hB; first | (rw [hB]; rfl) | (rw [hB, hc]; rfl) | simp_all)) rfl) ?_
    refine d1q (i := 93) rfl (by kernel_rfl) (fun _ _ _ _ h => h) rfl rfl hn rfl (q_assign rfl rfl) ?_
    refine d1_of_d2 ?_
    refine d2_done (by kernel_rfl) ?_
    refine aend_then ?_
    refine awp_ret ?_
    exact ret_E (.inl rfl) () ((hands_1 rfl (.tmp rfl)).eq (by rfl)) trivial
theorem awake_ok : PureAt Tryz.prog 17 [] (.bool true) := PureAt.of_eff (ds := []) awake_eff
end Go.Proofs.YtplpcamcnppibaaGreatDoor
namespace Go.Proofs.YtplpcamcnppibaaGreatDoor
open Go.RowKit
set_option maxRecDepth 20000
set_option linter.all false
theorem thin_bd {b : Brd} {n : Nat} (h : thinT b n = true) : b.stocks.length ≤ 7 ∧ n ≤ 200 := by
  unfold thinT at h
  simp only [Bool.and_eq_true, decide_eq_true_eq] at h
  omega
end Go.Proofs.YtplpcamcnppibaaGreatDoor
namespace Go.Proofs.YtplpcamcnppibaaGreatDoor
open Go.RowKit
set_option maxRecDepth 20000
set_option linter.all false
def prt0 : Prt := ⟨-1, 0, 0, 0, false, 0, 0, 0⟩
/-- The greatest of the lower bounds before k. -/
def loU (l : List Prt) : Nat → Int
  | 0 => -9999
  | k + 1 => max (loU l k) ((l.getD k prt0).minute - (l.getD k prt0).lhi)
/-- The least of j upper bounds from i on. -/
def hiV (l : List Prt) (i : Nat) : Nat → Int
  | 0 => 9999
  | j + 1 => min (hiV l i j) ((l.getD (i + j) prt0).minute - (l.getD (i + j) prt0).llo)
def timI (l : List Prt) (i : Nat) : Int × Int := (loU l (i + 1), hiV l i (l.length - i))
def timL (l : List Prt) (i : Nat) : List (Int × Int) := (List.range i).map (timI l)
def timesB (l : List Prt) : Bool := (List.range l.length).all fun i => decide ((timI l i).1 ≤ (timI l i).2)
def timesI (l : List Prt) : List (Int × Int) := bif timesB l then timL l l.length else []
theorem timL_add {l : List Prt} {i : Nat} : (timL l i).map rngE ++ [rngE (timI l i)] = (timL l (i + 1)).map rngE := by unfold timL; rw [List.range_succ]; simp
theorem loU_bd {b : Brd} {l : List Prt} (h : ∀ p ∈ l, PrtOK b p) : ∀ k, k ≤ l.length → -9999 ≤ loU l k ∧ loU l k ≤ 9999
  | 0, _ => by unfold loU; omega
  | k + 1, hk => by
    have h1 := loU_bd h k (by omega)
    obtain ⟨p, hp⟩ := ex_get (show k < l.length by omega)
    have h2 := (h p (List.mem_of_getElem? hp)).mi
    have h3 := (h p (List.mem_of_getElem? hp)).la
    unfold loU
    rw [getD_of hp]
    omega
theorem hiV_cons (l : List Prt) (i : Nat) : ∀ j, hiV l i (j + 1) = min ((l.getD i prt0).minute - (l.getD i prt0).llo) (hiV l (i + 1) j)
  | 0 => by simp only [hiV, Nat.add_zero]; omega
  | j + 1 => by
    rw [hiV, hiV_cons l i j, hiV, show i + (j + 1) = i + 1 + j by omega]
    omega
theorem minF_lo {l : List Prt} : ∀ i, i < l.length → ((minF l (-9999)).getD i (0, 0)).1 = loU l (i + 1) := by
  intro i
  induction i with
  | zero =>
    intro h
    obtain ⟨s, hs⟩ := ex_get h
    rw [getD_of (minF_get hs), if_pos rfl, loU, loU, getD_of hs]
    simp only
    omega
  | succ i ih =>
    intro h
    obtain ⟨s, hs⟩ := ex_get h
    have := ih (by omega)
    rw [getD_of (minF_get hs), if_neg (by omega), Nat.add_sub_cancel, this, show loU l (i + 1 + 1) = max (loU l (i + 1)) ((l.getD (i + 1) prt0).minute - (l.getD (i + 1) prt0).lhi) from rfl, getD_of hs]
    simp only
    omega
theorem minI_tim {b : Brd} {l : List Prt} (h : ∀ p ∈ l, PrtOK b p) : minI l = timL l l.length := by
  have key : ∀ j i, i + j + 1 = l.length → (minB (minF l (-9999)))[i]? = some (timI l i) := by
    intro j
    induction j with
    | zero =>
      intro i hi
      obtain ⟨s, hs⟩ := ex_get (show i < l.length by omega)
      have hM := minF_get (lo := -9999) hs
      have hlo := minF_lo (l := l) i (by omega)
      rw [minB_get hM, List.getElem?_eq_none (l := minB (minF l (-9999))) (by rw [minB_len, minF_len]; omega)]
      rw [getD_of hM] at hlo
      have h1 := (h s (List.mem_of_getElem? hs)).mi
      have h2 := (h s (List.mem_of_getElem? hs)).la
      unfold timI
      rw [← hlo, show l.length - i = 0 + 1 by omega, hiV, hiV, Nat.add_zero, getD_of hs]
      simp only
      congr 2
      omega
    | succ j ih =>
      intro i hi
      obtain ⟨s, hs⟩ := ex_get (show i < l.length by omega)
      have hM := minF_get (lo := -9999) hs
      have hlo := minF_lo (l := l) i (by omega)
      rw [minB_get hM, ih (i + 1) (by omega)]
      rw [getD_of hM] at hlo
      unfold timI
      rw [← hlo, show l.length - i = (l.length - (i + 1)) + 1 by omega, hiV_cons, getD_of hs]
  unfold minI timL
  apply List.ext_getElem?
  intro i
  by_cases hi : i < l.length
  · rw [key (l.length - i - 1) i (by omega), List.getElem?_map, List.getElem?_range hi]
    rfl
  · rw [List.getElem?_eq_none (by rw [minB_len, minF_len]; omega), List.getElem?_eq_none (by simp; omega)]
theorem right_tim {b : Brd} {l : List Prt} (h : ∀ p ∈ l, PrtOK b p) : rightB (minI l) = timesB l := by
  rw [minI_tim h]
  unfold rightB timL timesB
  rw [List.all_map]
  rfl
theorem timesB_bad {l : List Prt} {i : Nat} (hi : i < l.length) (h : decide ((timI l i).2 < (timI l i).1) = true) : timesB l = false := by
  unfold timesB
  rw [List.all_eq_false]
  refine ⟨i, List.mem_range.2 hi, ?_⟩
  simp only [decide_eq_true_eq] at h
  simp only [decide_eq_true_eq]
  omega
theorem timesB_good {l : List Prt} (h : ∀ k, k < l.length → (timI l k).1 ≤ (timI l k).2) : timesB l = true := by
  unfold timesB
  rw [List.all_eq_true]
  intro k hk
  simpa using h k (List.mem_range.1 hk)
theorem minutes_tim {b : Brd} {s : List UInt8} (h0 : (readI b s).2 = 0) : minutesI b s = bif timesB (readI b s).1 then (timL (readI b s).1 (readI b s).1.length, 0) else ([], 11) := by
  have hpo := (read_prts (b := b) (s := s)).1
  unfold minutesI
  rw [h0, right_tim hpo, minI_tim hpo]
  rfl
theorem elt51 : ElT Tryz.prog 51 41 2 16 := elt_of Tryz.underlying51 (z := (.agg #[(.int .i64 0), (.int .i64 0)])) (by kernel_rfl) rfl (by decide)
theorem Times_eff (b : Brd) (l : List Prt) (hpo : ∀ p ∈ l, PrtOK b p) (hl8 : l.length ≤ 8) : EffAt Tryz.prog 25 [.d (prtsD l)] [] (X := Unit) (fun _ => .d (.tup [rngsD (timesI l), .bool (timesB l)])) (fun _ => []) := by
  refine EffAt.of_awp Tryz.func25 rfl (by kernel_rfl) rfl fun Γ hn => ?_
  refine awp_seq ?_
  refine awp_region ?_
  refine sq rfl rfl hn rfl (q_assign rfl rfl) ?_
  refine sq rfl rfl hn rfl (q_assign rfl rfl) ?_
  refine run_nil ?_
  refine aend_then ?_
  refine awp_seq ?_
  refine awp_region ?_
  refine sq rfl rfl hn rfl (q_assign rfl rfl) ?_
  refine run_nil ?_
  refine aend_then ?_
  refine awp_seq ?_
  refine awp_seq ?_
  refine gh_awp (g_nil (t := 4) (id := 4) 41 2 rfl (nb hn rfl)) ?_
  refine awp_region ?_
  refine sq rfl rfl hn rfl (q_assign rfl rfl) ?_
  refine run_nil ?_
  refine aend_then ?_
  refine awp_block ?_
  refine awp_loop_on (ι := {x : Nat × Value // x.1 ≤ l.length ∧ ∀ k, k < x.1 → (timI l k).1 ≤ (timI l k).2}) (fun x => (5, true, .d (.int .i64 (x.1.1 : Nat))) :: (4, true, .val x.1.2) :: anys [9, 10, 11, 12, 15, 6, 7, 16, 17, 18, 21, 22, 23, 24, 25, 26, 27, 28, 29, 30, 31, 32, 33, 34, 35, 36, 19, 20, 37, 8, 38, 39, 40, 41, 44, 45, 46, 47, 48, 49, 50, 51, 52, 53, 54, 55, 56, 57, 58, 59, 42, 43, 60, 61, 62, 63, 64, 65, 66, 67, 68, 13, 14]) (fun x => (4, .row x.1.2 41 2 ((timL l x.1.1).map rngE)) :: gones [6]) (fun x => l.length - x.1.1) ⟨(0, _), Nat.zero_le _, fun k hk => by omega⟩ ⟨.inl rfl, .inl rfl, holdT_anys _⟩ ⟨.inl rfl, holdR_gones _⟩ ?_
  rintro ⟨⟨i, vv⟩, hi, hall⟩
  dsimp only
  dsimp only at hi hall
  refine awp_seq ?_
  refine awp_seq ?_
  refine awp_region ?_
  refine sq rfl rfl hn rfl (q_move rfl rfl) ?_
  refine sq rfl rfl hn rfl (q_move rfl rfl) ?_
  refine sq rfl rfl hn rfl (q_len rfl rfl Tryz.underlying35) ?_
  refine sq rfl rfl hn rfl (q_lss rfl rfl rfl) ?_
  refine run_nil ?_
  refine aend_then ?_
  refine awp_cond rfl (fun hb0 => ?_) (fun hb0 => ?_)
  · skip
    have hil : i < l.length := by simp at hb0; omega
    refine awp_skip ?_
    refine aend_then ?_
    refine awp_seq ?_
    refine awp_block ?_
    refine awp_seq ?_
    refine awp_region ?_
    refine sq rfl rfl hn rfl (q_buildd rfl bt41 rfl rfl rfl rfl rfl) ?_
    refine stepW (s_alloc 6 rfl rfl rfl (nb hn rfl) zr41 rfl rfl) fun b6 => ?_
    refine stepW (s_store rfl rfl rfl rfl rfl rfl (id := 6) rfl sz41 rfl (Nat.le_of_ble_eq_true rfl) rfl trivial) fun _ => ?_
    refine run_nil ?_
    refine aend_then ?_
    refine awp_seq ?_
    refine awp_seq ?_
    refine awp_region ?_
    refine sq rfl rfl hn rfl (q_assign rfl rfl) ?_
    refine run_nil ?_
    refine aend_then ?_
    refine awp_block ?_
    refine awp_loop_on (ι := {k : Nat // k ≤ i + 1}) (fun y => (7, true, .d (.int .i64 (y.1 : Nat))) :: anys [16, 17, 18, 21, 22, 23, 24, 25, 26, 27, 28, 29, 30, 31, 32, 33, 34, 35, 36, 19, 20]) (fun y => [(6, .box b6 41 [.d (.int .i64 (loU l y.1)), .d (.int .i64 (9999))])]) (fun y => i + 1 - y.1) ⟨0, Nat.zero_le _⟩ ⟨.inl rfl, holdT_anys _⟩ ⟨.inl rfl, trivial⟩ ?_
    rintro ⟨k, hk⟩
    dsimp only
    have hlo := loU_bd hpo k (by omega)
    refine awp_seq ?_
    refine awp_seq ?_
    refine awp_region ?_
    refine sq rfl rfl hn rfl (q_move rfl rfl) ?_
    refine sq rfl rfl hn rfl (q_move rfl rfl) ?_
    refine sq rfl rfl hn rfl (q_leq rfl rfl rfl) ?_
    refine run_nil ?_
    refine aend_then ?_
    refine awp_cond rfl (fun hb1 => ?_) (fun hb1 => ?_)
    · skip
      have hki : k ≤ i := by simp at hb1; omega
      obtain ⟨p, hp⟩ := ex_get (show k < l.length by omega)
      have hm := (hpo p (List.mem_of_getElem? hp)).mi
      have hla := (hpo p (List.mem_of_getElem? hp)).la
      have hs : loU l (k + 1) = max (loU l k) (p.minute - p.lhi) := by rw [loU, getD_of hp]
      refine awp_skip ?_
      refine aend_then ?_
      refine awp_seq ?_
      refine awp_block ?_
      refine awp_join_on (e := .normal) (ι := Unit) (fun u0 => anys [21, 22, 23, 24, 25, 26, 27, 28, 29, 30, 31, 32, 33, 34, 35, 36]) (fun u0 => [(6, .box b6 41 [.d (.int .i64 (loU l (k + 1))), .d (.int .i64 (9999))])]) (fun hJ2 => ?_) ?_
      · skip
        refine d_start (W := fun b => True) fmo ?_
        refine d1q (i := 0) rfl (by kernel_rfl) (fun _ _ _ _ h => h) rfl rfl hn rfl (q_fieldAddr rfl rfl Tryz.underlying41 rfl sz3) ?_
        refine d1q (i := 2) rfl (by kernel_rfl) (fun _ _ _ _ h => h) rfl rfl hn rfl (q_move rfl rfl) ?_
        refine d1q (i := 3) rfl (by kernel_rfl) (fun _ _ _ _ h => h) rfl rfl hn rfl (q_move rfl rfl) ?_
        refine d1q (i := 4) rfl (by kernel_rfl) (fun _ _ _ _ h => h) rfl rfl hn rfl (q_index (i := k) rfl rfl rfl Tryz.underlying35 sz43 rfl (mget hp)) ?_
        refine d1q (i := 5) rfl (by kernel_rfl) (fun _ _ _ _ h => h) rfl rfl hn rfl (q_fieldAddrp rfl rfl Tryz.underlying43 rfl sz3 rfl) ?_
        refine d1q (i := 6) rfl (by kernel_rfl) (fun _ _ _ _ h => h) rfl rfl hn rfl (q_loadp rfl rfl Tryz.underlying3 rfl seesFA) ?_
        refine d1q (i := 7) rfl (by kernel_rfl) (fun _ _ _ _ h => h) rfl rfl hn rfl (q_move rfl rfl) ?_
        refine d1q (i := 8) rfl (by kernel_rfl) (fun _ _ _ _ h => h) rfl rfl hn rfl (q_move rfl rfl) ?_
        refine d1q (i := 9) rfl (by kernel_rfl) (fun _ _ _ _ h => h) rfl rfl hn rfl (q_index (i := k) rfl rfl rfl Tryz.underlying35 sz43 rfl (mget hp)) ?_
        refine d1q (i := 10) rfl (by kernel_rfl) (fun _ _ _ _ h => h) rfl rfl hn rfl (q_fieldAddrp rfl rfl Tryz.underlying43 rfl sz41 rfl) ?_
        refine d1q (i := 11) rfl (by kernel_rfl) (fun _ _ _ _ h => h) rfl rfl hn rfl (q_fieldAddrp rfl rfl Tryz.underlying41 rfl sz3 rfl) ?_
        refine d1q (i := 12) rfl (by kernel_rfl) (fun _ _ _ _ h => h) rfl rfl hn rfl (q_loadp rfl rfl Tryz.underlying3 rfl seesFA) ?_
        refine d1q (i := 13) rfl (by kernel_rfl) (fun _ _ _ _ h => h) rfl rfl hn rfl (q_sub rfl rfl rfl (r := p.minute - p.lhi) (i64w (by omega) rfl)) ?_
        refine d1_of_d2 ?_
        refine d2_one (i := 1) (by kernel_rfl) rfl (quiet_wg _ [] (guard_none rfl) rfl (nb hn rfl) (fun _ => trivial) (fun _ => q_load rfl rfl (id := 6) rfl Tryz.underlying3 rfl rfl sees0)) fun _ => ?_
        refine d2_of_d1 ?_
        refine d1q (i := 14) rfl (by kernel_rfl) (fun _ _ _ _ h => h) rfl rfl hn rfl (q_max rfl rfl rfl) ?_
        refine d1q (i := 15) rfl (by kernel_rfl) (fun _ _ _ _ h => h) rfl rfl hn rfl (q_fieldAddr rfl rfl Tryz.underlying41 rfl sz3) ?_
        refine d1_of_d2 ?_
        refine d2_one (i := 16) (by kernel_rfl) rfl (s_store1 rfl rfl rfl rfl rfl rfl (id := 6) rfl sz3 (Nat.le_of_ble_eq_true rfl) rfl trivial) fun _ => ?_
        refine d2_of_d1 ?_
        refine d1_of_d2 ?_
        refine d2_done (by kernel_rfl) ?_
        exact aend_join_on hJ2 () (holdT_anys _) ⟨.inl (by rw [hs]; rfl), trivial⟩ (by repeat (first | exact kr _ | refine kc rfl ?_)) (by repeat (first | exact kr _ | refine kc rfl ?_))
      · rintro _
        refine aend_block ?_
        refine aend_then ?_
        refine awp_region ?_
        refine sq rfl rfl hn rfl (q_move rfl rfl) ?_
        refine sq rfl rfl hn rfl (q_add rfl rfl rfl (r := ((k + 1 : Nat) : Int)) (i64w (by omega) (by omega))) ?_
        refine sq rfl rfl hn rfl (q_assign rfl rfl) ?_
        refine run_nil ?_
        exact aend_round_on ⟨k + 1, by omega⟩ ⟨.inl rfl, holdT_anys _⟩ ⟨.inl rfl, trivial⟩ (by simp only; omega) (by repeat (first | exact kr _ | refine kc rfl ?_)) (by repeat (first | exact kr _ | refine kc rfl ?_))
    · skip
      obtain rfl : k = i + 1 := by simp at hb1; omega
      refine awp_exit ?_
      refine aend_then_exit ?_
      refine aend_then_exit ?_
      refine aend_block_exit ?_
      refine aend_then ?_
      refine awp_seq ?_
      refine awp_seq ?_
      refine awp_region ?_
      refine sq rfl rfl hn rfl (q_move rfl rfl) ?_
      refine sq rfl rfl hn rfl (q_assign rfl rfl) ?_
      refine run_nil ?_
      refine aend_then ?_
      refine awp_block ?_
      refine awp_loop_on (ι := {j : Nat // i + j ≤ l.length}) (fun y => (8, true, .d (.int .i64 ((i + y.1 : Nat) : Int))) :: anys [38, 39, 40, 41, 44, 45, 46, 47, 48, 49, 50, 51, 52, 53, 54, 55, 56, 57, 58, 59, 42, 43]) (fun y => [(6, .box b6 41 [.d (.int .i64 (loU l (i + 1))), .d (.int .i64 (hiV l i y.1))])]) (fun y => l.length - (i + y.1)) ⟨0, by omega⟩ ⟨.inl rfl, holdT_anys _⟩ ⟨.inl rfl, trivial⟩ ?_
      rintro ⟨j, hj⟩
      dsimp only
      refine awp_seq ?_
      refine awp_seq ?_
      refine awp_region ?_
      refine sq rfl rfl hn rfl (q_move rfl rfl) ?_
      refine sq rfl rfl hn rfl (q_move rfl rfl) ?_
      refine sq rfl rfl hn rfl (q_len rfl rfl Tryz.underlying35) ?_
      refine sq rfl rfl hn rfl (q_lss rfl rfl rfl) ?_
      refine run_nil ?_
      refine aend_then ?_
      refine awp_cond rfl (fun hb3 => ?_) (fun hb3 => ?_)
      · skip
        have hjl : i + j < l.length := by simp at hb3; omega
        obtain ⟨p, hp⟩ := ex_get hjl
        have hm := (hpo p (List.mem_of_getElem? hp)).mi
        have hla := (hpo p (List.mem_of_getElem? hp)).la
        have hs : hiV l i (j + 1) = min (hiV l i j) (p.minute - p.llo) := by rw [hiV, getD_of hp]
        refine awp_skip ?_
        refine aend_then ?_
        refine awp_seq ?_
        refine awp_block ?_
        refine awp_join_on (e := .normal) (ι := Unit) (fun u0 => anys [44, 45, 46, 47, 48, 49, 50, 51, 52, 53, 54, 55, 56, 57, 58, 59]) (fun u0 => [(6, .box b6 41 [.d (.int .i64 (loU l (i + 1))), .d (.int .i64 (hiV l i (j + 1)))])]) (fun hJ4 => ?_) ?_
        · skip
          refine d_start (W := fun b => True) fmo ?_
          refine d1q (i := 0) rfl (by kernel_rfl) (fun _ _ _ _ h => h) rfl rfl hn rfl (q_fieldAddr rfl rfl Tryz.underlying41 rfl sz3) ?_
          refine d1q (i := 2) rfl (by kernel_rfl) (fun _ _ _ _ h => h) rfl rfl hn rfl (q_move rfl rfl) ?_
          refine d1q (i := 3) rfl (by kernel_rfl) (fun _ _ _ _ h => h) rfl rfl hn rfl (q_move rfl rfl) ?_
          refine d1q (i := 4) rfl (by kernel_rfl) (fun _ _ _ _ h => h) rfl rfl hn rfl (q_index (i := i + j) rfl rfl rfl Tryz.underlying35 sz43 rfl (mget hp)) ?_
          refine d1q (i := 5) rfl (by kernel_rfl) (fun _ _ _ _ h => h) rfl rfl hn rfl (q_fieldAddrp rfl rfl Tryz.underlying43 rfl sz3 rfl) ?_
          refine d1q (i := 6) rfl (by kernel_rfl) (fun _ _ _ _ h => h) rfl rfl hn rfl (q_loadp rfl rfl Tryz.underlying3 rfl seesFA) ?_
          refine d1q (i := 7) rfl (by kernel_rfl) (fun _ _ _ _ h => h) rfl rfl hn rfl (q_move rfl rfl) ?_
          refine d1q (i := 8) rfl (by kernel_rfl) (fun _ _ _ _ h => h) rfl rfl hn rfl (q_move rfl rfl) ?_
          refine d1q (i := 9) rfl (by kernel_rfl) (fun _ _ _ _ h => h) rfl rfl hn rfl (q_index (i := i + j) rfl rfl rfl Tryz.underlying35 sz43 rfl (mget hp)) ?_
          refine d1q (i := 10) rfl (by kernel_rfl) (fun _ _ _ _ h => h) rfl rfl hn rfl (q_fieldAddrp rfl rfl Tryz.underlying43 rfl sz41 rfl) ?_
          refine d1q (i := 11) rfl (by kernel_rfl) (fun _ _ _ _ h => h) rfl rfl hn rfl (q_fieldAddrp rfl rfl Tryz.underlying41 rfl sz3 rfl) ?_
          refine d1q (i := 12) rfl (by kernel_rfl) (fun _ _ _ _ h => h) rfl rfl hn rfl (q_loadp rfl rfl Tryz.underlying3 rfl seesFA) ?_
          refine d1q (i := 13) rfl (by kernel_rfl) (fun _ _ _ _ h => h) rfl rfl hn rfl (q_sub rfl rfl rfl (r := p.minute - p.llo) (i64w (by omega) rfl)) ?_
          refine d1_of_d2 ?_
          refine d2_one (i := 1) (by kernel_rfl) rfl (quiet_wg _ [] (guard_none rfl) rfl (nb hn rfl) (fun _ => trivial) (fun _ => q_load rfl rfl (id := 6) rfl Tryz.underlying3 rfl rfl sees0)) fun _ => ?_
          refine d2_of_d1 ?_
          refine d1q (i := 14) rfl (by kernel_rfl) (fun _ _ _ _ h => h) rfl rfl hn rfl (q_min rfl rfl rfl) ?_
          refine d1q (i := 15) rfl (by kernel_rfl) (fun _ _ _ _ h => h) rfl rfl hn rfl (q_fieldAddr rfl rfl Tryz.underlying41 rfl sz3) ?_
          refine d1_of_d2 ?_
          refine d2_one (i := 16) (by kernel_rfl) rfl (s_store1 rfl rfl rfl rfl rfl rfl (id := 6) rfl sz3 (Nat.le_of_ble_eq_true rfl) rfl trivial) fun _ => ?_
          refine d2_of_d1 ?_
          refine d1_of_d2 ?_
          refine d2_done (by kernel_rfl) ?_
          exact aend_join_on hJ4 () (holdT_anys _) ⟨.inl (by rw [hs]; rfl), trivial⟩ (by repeat (first | exact kr _ | refine kc rfl ?_)) (by repeat (first | exact kr _ | refine kc rfl ?_))
        · rintro _
          refine aend_block ?_
          refine aend_then ?_
          refine awp_region ?_
          refine sq rfl rfl hn rfl (q_move rfl rfl) ?_
          refine sq rfl rfl hn rfl (q_add rfl rfl rfl (r := ((i + j + 1 : Nat) : Int)) (i64w (by omega) (by omega))) ?_
          refine sq rfl rfl hn rfl (q_assign rfl rfl) ?_
          refine run_nil ?_
          exact aend_round_on ⟨j + 1, by omega⟩ ⟨.inl rfl, holdT_anys _⟩ ⟨.inl rfl, trivial⟩ (by simp only; omega) (by repeat (first | exact kr _ | refine kc rfl ?_)) (by repeat (first | exact kr _ | refine kc rfl ?_))
      · skip
        obtain rfl : j = l.length - i := by simp at hb3; omega
        refine awp_exit ?_
        refine aend_then_exit ?_
        refine aend_then_exit ?_
        refine aend_block_exit ?_
        refine aend_then ?_
        refine awp_seq ?_
        refine awp_seq ?_
        refine awp_region ?_
        refine sq rfl rfl hn rfl (q_fieldAddr rfl rfl Tryz.underlying41 rfl sz3) ?_
        refine sq rfl rfl hn rfl (q_load rfl rfl (id := 6) rfl Tryz.underlying3 rfl rfl sees0) ?_
        refine sq rfl rfl hn rfl (q_fieldAddr rfl rfl Tryz.underlying41 rfl sz3) ?_
        refine sq rfl rfl hn rfl (q_load rfl rfl (id := 6) rfl Tryz.underlying3 rfl rfl sees0) ?_
        refine sq rfl rfl hn rfl (q_gtr rfl rfl rfl) ?_
        refine run_nil ?_
        refine aend_then ?_
        refine awp_cond rfl (fun hb5 => ?_) (fun hb5 => ?_)
        · skip
          have hT := timesB_bad hil (by exact hb5)
          have e1 : timesI l = [] := by unfold timesI; rw [hT]; rfl
          rw [e1, hT]
          refine awp_seq ?_
          refine awp_region ?_
          refine sq rfl rfl hn rfl (q_assign rfl rfl) ?_
          refine sq rfl rfl hn rfl (q_assign rfl rfl) ?_
          refine run_nil ?_
          refine aend_then ?_
          refine awp_ret ?_
          refine aend_then_ret ?_
          refine aend_block_ret ?_
          refine aend_then_ret ?_
          refine aend_then_ret ?_
          refine aend_block_ret ?_
          refine aend_then_ret ?_
          exact ret_E (.inl rfl) () ((hands_2d rfl (.tmp rfl) (.tmp rfl)).le (.tup (.cons (.nil 2) (.refl _)))) trivial
        · skip
          have hle : (timI l i).1 ≤ (timI l i).2 := by have h := hb5; simp only [decide_eq_false_iff_not, Int.not_lt] at h; exact h
          refine awp_skip ?_
          refine aend_then ?_
          refine awp_region ?_
          refine sq rfl rfl hn rfl (q_move rfl rfl) ?_
          refine sq rfl rfl hn rfl (q_loadAd rfl rfl (id := 6) rfl Tryz.underlying41 rfl sz41 rfl rfl sees0) ?_
          refine stepW (s_buildSlice rfl rfl rfl (nb hn rfl) Tryz.underlying51 sz41 zr41 rfl rfl rfl (show _ = [.d (.int .i64 0), .d (.int .i64 0)] from by kernel_rfl) (by kernel_rfl) rfl rfl rfl rfl rfl) fun _ => ?_
          refine stepW (s_append (id := 4) rfl rfl rfl (nb hn rfl) elt51 trivial rfl rfl rfl (by simp [chunk, timL]; omega) (by simp [chunk, timL]; omega) (fun b hb => trivial)) fun v68 => ?_
          refine sq rfl rfl hn rfl (q_assign rfl rfl) ?_
          refine run_nil ?_
          refine aend_block ?_
          refine aend_then ?_
          refine awp_region ?_
          refine sq rfl rfl hn rfl (q_move rfl rfl) ?_
          refine sq rfl rfl hn rfl (q_add rfl rfl rfl (r := ((i + 1 : Nat) : Int)) (i64w (by omega) (by omega))) ?_
          refine sq rfl rfl hn rfl (q_assign rfl rfl) ?_
          refine run_nil ?_
          exact aend_round_on ⟨(i + 1, v68), by simp only; omega, fun k hk => by (by_cases e : k = i; (subst e; exact hle); exact hall k (by omega))⟩ ⟨.inl rfl, .inl rfl, holdT_anys _⟩ ⟨.inl (congrArg (fun z => some (Res.row v68 41 2 z)) timL_add), holdR_gones _⟩ (by simp only; omega) (by repeat (first | exact kr _ | refine kc rfl ?_)) (by repeat (first | exact kr _ | refine kc rfl ?_))
  · skip
    have hie : i = l.length := by simp at hb0; omega
    subst hie
    have hT := timesB_good hall
    have e1 : timesI l = timL l l.length := by unfold timesI; rw [hT]; rfl
    rw [e1, hT]
    refine awp_exit ?_
    refine aend_then_exit ?_
    refine aend_then_exit ?_
    refine aend_block_exit ?_
    refine aend_then ?_
    refine awp_seq ?_
    refine awp_region ?_
    refine sq rfl rfl hn rfl (q_move rfl rfl) ?_
    refine sq rfl rfl hn rfl (q_assign rfl rfl) ?_
    refine sq rfl rfl hn rfl (q_assign rfl rfl) ?_
    refine run_nil ?_
    refine aend_then ?_
    refine awp_ret ?_
    refine gh_end (g_row (t := 2) (id := 4) rfl rfl) ?_
    exact ret_E (.inl rfl) () (hands_2d rfl (.tmp rfl) (.tmp rfl)) trivial
theorem Times_ok (b : Brd) (l : List Prt) (hpo : ∀ p ∈ l, PrtOK b p) (hl8 : l.length ≤ 8) : PureAt Tryz.prog 25 [prtsD l] (.tup [rngsD (timesI l), .bool (timesB l)]) := PureAt.of_eff (ds := [prtsD l]) (Times_eff b l hpo hl8)
theorem minutes_nil {b : Brd} {s : List UInt8} (h : (minutesI b s).2 ≠ 0) : (minutesI b s).1 = [] := by
  unfold minutesI at h ⊢
  cases h1 : ((readI b s).2 != 0) <;> rw [h1] at h
  · cases h2 : rightB (minI (readI b s).1) <;> rw [h2] at h
    · rfl
    · exact (h rfl).elim
  · rfl
theorem minutes_good {b : Brd} {s : List UInt8} (h : (minutesI b s).2 = 0) : (readI b s).2 = 0 ∧ timesB (readI b s).1 = true ∧ (minutesI b s).1 = timL (readI b s).1 (readI b s).1.length := by
  by_cases h0 : (readI b s).2 = 0
  · have e := minutes_tim h0
    cases hT : timesB (readI b s).1 with
    | true => rw [hT] at e; exact ⟨h0, rfl, by rw [e]; rfl⟩
    | false => rw [hT] at e; rw [e] at h; cases h
  · unfold minutesI at h
    rw [show ((readI b s).2 != 0) = true by simpa using h0] at h
    exact (h0 h).elim
theorem TapeMinutes_ok (b : Brd) (s : List UInt8) (hN : NamesOK b) : PureAt Tryz.prog 4 [brdD b, strD s] (.bool true) := by
  refine PureAt.of_awp Tryz.func4 rfl (by kernel_rfl) (Nat.le_of_ble_eq_true rfl) fun Γ hn hl => ?_
  obtain ⟨hpo, hl8⟩ := read_prts (b := b) (s := s)
  refine awp_seq ?_
  refine awp_region ?_
  refine stepW (s_box 2 rfl rfl rfl (nb hn rfl) rfl rfl) fun b2 => ?_
  refine sq rfl rfl hn rfl (q_assign rfl rfl) ?_
  refine run_nil ?_
  refine aend_then ?_
  refine awp_seq ?_
  refine awp_seq ?_
  refine awp_region ?_
  refine sq rfl rfl hn rfl (q_loadAd rfl rfl (id := 2) rfl Tryz.underlying24 rfl sz24 rfl rfl sees0) ?_
  refine sq rfl rfl hn rfl (q_move rfl rfl) ?_
  refine stepW (s_call [] (fun _ => Thin_ok b s hN) rfl (guard_none rfl) rfl (nb hn rfl) (fun _ => trivial) rfl rfl (.refl _)) fun _ => ?_
  refine sq rfl rfl hn rfl (q_not rfl rfl) ?_
  refine run_nil ?_
  refine aend_then ?_
  refine awp_cond rfl (fun hb0 => ?_) (fun hb0 => ?_)
  · skip
    refine awp_seq ?_
    refine awp_region ?_
    refine stepW (s_call [] (fun _ => awake_ok) rfl (guard_none rfl) rfl (nb hn rfl) (fun _ => trivial) rfl rfl (.refl _)) fun _ => ?_
    refine sq rfl rfl hn rfl (q_assign rfl rfl) ?_
    refine run_nil ?_
    refine aend_then ?_
    refine awp_ret ?_
    refine aend_then_ret ?_
    exact ret_1 (.inl rfl) hl rfl (.tmp rfl)
  · skip
    have hth : thinT b s.length = true := by simpa using hb0
    obtain ⟨hb7, hs2⟩ := thin_bd hth
    refine awp_skip ?_
    refine aend_then ?_
    refine awp_seq ?_
    refine awp_region ?_
    refine sq rfl rfl hn rfl (q_loadAd rfl rfl (id := 2) rfl Tryz.underlying24 rfl sz24 rfl rfl sees0) ?_
    refine stepW (s_call [] (fun _ => Board_ok b (by omega)) rfl (guard_none rfl) rfl (nb hn rfl) (fun _ => trivial) rfl rfl (.refl _)) fun _ => ?_
    refine sq rfl rfl hn rfl (q_move rfl rfl) ?_
    refine stepW (s_call [] (fun _ => Minutes_ok b s hN (by omega)) rfl (guard_none rfl) rfl (nb hn rfl) (fun _ => trivial) rfl rfl (.refl _)) fun _ => ?_
    refine sq rfl rfl hn rfl (q_move rfl rfl) ?_
    refine sq rfl rfl hn rfl (q_extractd rfl rfl rfl) ?_
    refine sq rfl rfl hn rfl (q_extractd rfl rfl rfl) ?_
    refine sq rfl rfl hn rfl (q_assign rfl rfl) ?_
    refine sq rfl rfl hn rfl (q_assign rfl rfl) ?_
    refine run_nil ?_
    refine aend_then ?_
    refine awp_seq ?_
    refine awp_region ?_
    refine sq rfl rfl hn rfl (q_loadAd rfl rfl (id := 2) rfl Tryz.underlying24 rfl sz24 rfl rfl sees0) ?_
    refine sq rfl rfl hn rfl (q_move rfl rfl) ?_
    refine stepW (s_call [] (fun _ => read_law b s hN (by omega)) rfl (guard_none rfl) rfl (nb hn rfl) (fun _ => trivial) rfl rfl (.refl _)) fun _ => ?_
    refine sq rfl rfl hn rfl (q_move rfl rfl) ?_
    refine sq rfl rfl hn rfl (q_extractd rfl rfl rfl) ?_
    refine sq rfl rfl hn rfl (q_extractd rfl rfl rfl) ?_
    refine sq rfl rfl hn rfl (q_assign rfl rfl) ?_
    refine sq rfl rfl hn rfl (q_assign rfl rfl) ?_
    refine run_nil ?_
    refine aend_then ?_
    refine awp_seq ?_
    refine awp_region ?_
    refine sq rfl rfl hn rfl (q_move rfl rfl) ?_
    refine stepW (s_call [] (fun _ => Times_ok b (readI b s).1 hpo hl8) rfl (guard_none rfl) rfl (nb hn rfl) (fun _ => trivial) rfl rfl (.refl _)) fun _ => ?_
    refine sq rfl rfl hn rfl (q_move rfl rfl) ?_
    refine sq rfl rfl hn rfl (q_extractd rfl rfl rfl) ?_
    refine sq rfl rfl hn rfl (q_extractd rfl rfl rfl) ?_
    refine sq rfl rfl hn rfl (q_assign rfl rfl) ?_
    refine sq rfl rfl hn rfl (q_assign rfl rfl) ?_
    refine run_nil ?_
    refine aend_then ?_
    refine awp_seq ?_
    refine awp_seq ?_
    refine awp_region ?_
    refine sq rfl rfl hn rfl (q_move rfl rfl) ?_
    refine sq rfl rfl hn rfl (q_eql rfl rfl rfl) ?_
    refine sq rfl rfl hn rfl (q_move rfl rfl) ?_
    refine stepG [] (guard_some rfl rfl rfl) rfl (nb hn rfl) (fun hc => trivial) (fun hc => q_move rfl rfl) ?_
    refine stepG [(38, _)] (guard_some rfl rfl rfl) rfl (nb hn rfl) (fun hc => ⟨⟨_, rfl, hc⟩, trivial⟩) (fun hc => q_not rfl rfl) ?_
    refine sq rfl rfl hn rfl (q_and rfl rfl rfl (by intro hB; first | (rw [hB]; rfl) | (rw [hB, hc]; rfl) | simp_all)) ?_
    refine run_nil ?_
    refine aend_then ?_
    refine awp_join_on (e := .normal) (ι := Unit) (fun u0 => [(8, true, .d (.int .i64 (minutesI b s).2))]) (fun u0 => []) (fun hJ1 => ?_) ?_
    · skip
      refine awp_cond rfl (fun hb1 => ?_) (fun hb1 => ?_)
      · skip
        obtain ⟨h0, hT⟩ : (readI b s).2 = 0 ∧ timesB (readI b s).1 = false := by simpa using hb1
        have em : minutesI b s = ([], 11) := by rw [minutes_tim h0, hT]; rfl
        refine awp_region ?_
        refine sq rfl rfl hn rfl (q_assign rfl rfl) ?_
        refine run_nil ?_
        exact aend_join_on hJ1 () ⟨.inl (congrArg (fun z => some (true, TV.d (D.int .i64 z))) (by rw [em])), trivial⟩ trivial (by repeat (first | exact kr _ | refine kc rfl ?_)) (by repeat (first | exact kr _ | refine kc rfl ?_))
      · skip
        have em : (minutesI b s).2 = (readI b s).2 := by (by_cases h0 : (readI b s).2 = 0; (have hT : timesB (readI b s).1 = true := by simpa [h0] using hb1); (rw [minutes_tim h0, hT, h0]; rfl); (unfold minutesI; rw [show ((readI b s).2 != 0) = true by simpa using h0]; rfl))
        refine awp_skip ?_
        exact aend_join_on hJ1 () ⟨.inl (congrArg (fun z => some (true, TV.d (D.int .i64 z))) em.symm), trivial⟩ trivial (by repeat (first | exact kr _ | refine kc rfl ?_)) (by repeat (first | exact kr _ | refine kc rfl ?_))
    · rintro _
      refine aend_then ?_
      refine awp_seq ?_
      refine awp_seq ?_
      refine awp_region ?_
      refine sq rfl rfl hn rfl (q_move rfl rfl) ?_
      refine sq rfl rfl hn rfl (q_neq rfl rfl rfl) ?_
      refine run_nil ?_
      refine aend_then ?_
      refine awp_cond rfl (fun hb2 => ?_) (fun hb2 => ?_)
      · skip
        have hne : (minutesI b s).2 ≠ 0 := by simpa using hb2
        have hnil : (minutesI b s).1 = [] := minutes_nil hne
        refine awp_seq ?_
        refine awp_region ?_
        refine sq rfl rfl hn rfl (q_move rfl rfl) ?_
        refine sq rfl rfl hn rfl (q_move rfl rfl) ?_
        refine sq rfl rfl hn rfl (q_eql rfl rfl rfl) ?_
        refine sq rfl rfl hn rfl (q_move rfl rfl) ?_
        refine stepG [] (guard_some rfl rfl rfl) rfl (nb hn rfl) (fun hc => trivial) (fun hc => q_move rfl rfl) ?_
        refine stepG [(47, _)] (guard_some rfl rfl rfl) rfl (nb hn rfl) (fun hc => ⟨⟨_, rfl, hc⟩, trivial⟩) (fun hc => q_len rfl rfl Tryz.underlying48) ?_
        refine stepG [(48, _)] (guard_some rfl rfl rfl) rfl (nb hn rfl) (fun hc => ⟨⟨_, rfl, hc⟩, trivial⟩) (fun hc => q_eql rfl rfl rfl) ?_
        refine sq rfl rfl hn rfl (q_and rfl rfl rfl (by intro hB; first | (rw [hB]; rfl) | (rw [hB, hc]; rfl) | simp_all)) ?_
        refine sq rfl rfl hn rfl (q_move rfl rfl) ?_
        refine stepW (s_call [] (fun hc => awake_ok) rfl (guard_some rfl rfl rfl) rfl (nb hn rfl) (fun hc => trivial) rfl rfl (.refl _)) fun _ => ?_
        refine sq rfl rfl hn rfl (q_and rfl rfl rfl (by intro hB; first | (rw [hB]; rfl) | (rw [hB, hc]; rfl) | simp_all)) ?_
        refine sq rfl rfl hn rfl (q_assign rfl rfl) ?_
        refine run_nil ?_
        refine aend_then ?_
        refine awp_ret ?_
        refine aend_then_ret ?_
        refine ret_eq (ret_1 (.inl rfl) hl rfl (.tmp rfl)) ?_
        rw [hnil]; simp
      · skip
        have he0 : (minutesI b s).2 = 0 := by simpa using hb2
        obtain ⟨h0, hT, hmin⟩ := minutes_good he0
        have htI : timesI (readI b s).1 = (minutesI b s).1 := by unfold timesI; rw [hT, hmin]; rfl
        refine awp_skip ?_
        refine aend_then ?_
        refine awp_seq ?_
        refine awp_seq ?_
        refine awp_region ?_
        refine sq rfl rfl hn rfl (q_move rfl rfl) ?_
        refine sq rfl rfl hn rfl (q_neq rfl rfl rfl) ?_
        refine sq rfl rfl hn rfl (q_move rfl rfl) ?_
        refine stepG [] (guard_some rfl rfl rfl) rfl (nb hn rfl) (fun hc => trivial) (fun hc => q_move rfl rfl) ?_
        refine stepG [(57, _)] (guard_some rfl rfl rfl) rfl (nb hn rfl) (fun hc => ⟨⟨_, rfl, hc⟩, trivial⟩) (fun hc => q_len rfl rfl Tryz.underlying48) ?_
        refine stepG [] (guard_some rfl rfl rfl) rfl (nb hn rfl) (fun hc => trivial) (fun hc => q_move rfl rfl) ?_
        refine stepG [(59, _)] (guard_some rfl rfl rfl) rfl (nb hn rfl) (fun hc => ⟨⟨_, rfl, hc⟩, trivial⟩) (fun hc => q_len rfl rfl Tryz.underlying51) ?_
        refine stepG [(58, _), (60, _)] (guard_some rfl rfl rfl) rfl (nb hn rfl) (fun hc => ⟨⟨_, rfl, hc⟩, ⟨_, rfl, hc⟩, trivial⟩) (fun hc => q_neq rfl rfl rfl) ?_
        refine sq rfl rfl hn rfl (q_or rfl rfl rfl (by intro hB; first | (rw [hB]; rfl) | (rw [hB, hc]; rfl) | simp_all)) ?_
        refine run_nil ?_
        refine aend_then ?_
        refine awp_cond rfl (fun hb3 => ?_) (fun hb3 => ?_)
        · skip
          exact absurd hb3 (by rw [he0, htI]; simp)
        · skip
          refine awp_skip ?_
          refine aend_then ?_
          refine awp_seq ?_
          refine awp_seq ?_
          refine awp_region ?_
          refine sq rfl rfl hn rfl (q_assign rfl rfl) ?_
          refine run_nil ?_
          refine aend_then ?_
          refine awp_block ?_
          refine awp_loop_on (ι := {i : Nat // i ≤ (minutesI b s).1.length}) (fun x => (11, true, .d (.int .i64 (x.1 : Nat))) :: anys [63, 64, 65, 66, 69, 70, 71, 72, 73, 74, 75, 76, 77, 78, 67, 68]) (fun x => []) (fun x => (minutesI b s).1.length - x.1) ⟨0, Nat.zero_le _⟩ ⟨.inl rfl, holdT_anys _⟩ trivial ?_
          rintro ⟨i, hi⟩
          dsimp only
          refine awp_seq ?_
          refine awp_seq ?_
          refine awp_region ?_
          refine sq rfl rfl hn rfl (q_move rfl rfl) ?_
          refine sq rfl rfl hn rfl (q_move rfl rfl) ?_
          refine sq rfl rfl hn rfl (q_len rfl rfl Tryz.underlying48) ?_
          refine sq rfl rfl hn rfl (q_lss rfl rfl rfl) ?_
          refine run_nil ?_
          refine aend_then ?_
          refine awp_cond rfl (fun hb4 => ?_) (fun hb4 => ?_)
          · skip
            have hil : i < (minutesI b s).1.length := by simp at hb4; omega
            obtain ⟨r, hr⟩ := ex_get hil
            have hr2 : (timesI (readI b s).1)[i]? = some r := by rw [htI]; exact hr
            have hml : (minutesI b s).1.length ≤ 8 := by rw [hmin, timL, List.length_map, List.length_range]; exact hl8
            refine awp_skip ?_
            refine aend_then ?_
            refine awp_seq ?_
            refine awp_block ?_
            refine awp_seq ?_
            refine d_start (W := fun b => True) fmo ?_
            refine d1q (i := 0) rfl (by kernel_rfl) (fun _ _ _ _ h => h) rfl rfl hn rfl (q_move rfl rfl) ?_
            refine d1q (i := 1) rfl (by kernel_rfl) (fun _ _ _ _ h => h) rfl rfl hn rfl (q_move rfl rfl) ?_
            refine d1q (i := 2) rfl (by kernel_rfl) (fun _ _ _ _ h => h) rfl rfl hn rfl (q_index (i := i) rfl rfl rfl Tryz.underlying48 sz45 rfl (mget hr)) ?_
            refine d1q (i := 3) rfl (by kernel_rfl) (fun _ _ _ _ h => h) rfl rfl hn rfl (q_loadpA rfl rfl Tryz.underlying45 rfl sz45 rfl rfl seesFA) ?_
            refine d1q (i := 4) rfl (by kernel_rfl) (fun _ _ _ _ h => h) rfl rfl hn rfl (q_move rfl rfl) ?_
            refine d1q (i := 5) rfl (by kernel_rfl) (fun _ _ _ _ h => h) rfl rfl hn rfl (q_move rfl rfl) ?_
            refine d1q (i := 6) rfl (by kernel_rfl) (fun _ _ _ _ h => h) rfl rfl hn rfl (q_index (i := i) rfl rfl rfl Tryz.underlying51 sz41 rfl (mget hr2)) ?_
            refine d1q (i := 7) rfl (by kernel_rfl) (fun _ _ _ _ h => h) rfl rfl hn rfl (q_loadpA rfl rfl Tryz.underlying41 rfl sz41 rfl rfl seesFA) ?_
            refine d1_of_d2 ?_
            refine d2_one (i := 8) (by kernel_rfl) rfl (s_call [] (fun _ => to_ok r) rfl (guard_none rfl) rfl (nb hn rfl) (fun _ => trivial) rfl rfl (.refl _)) fun _ => ?_
            refine d2_of_d1 ?_
            refine d1q (i := 9) rfl (by kernel_rfl) (fun _ _ _ _ h => h) rfl rfl hn rfl (q_neq45 rfl rfl rfl) ?_
            refine d1_of_d2 ?_
            refine d2_done (by kernel_rfl) ?_
            refine aend_then ?_
            refine awp_cond rfl (fun hb5 => ?_) (fun hb5 => ?_)
            · skip
              exact absurd hb5 (by simp)
            · skip
              refine awp_skip ?_
              refine aend_block ?_
              refine aend_then ?_
              refine awp_region ?_
              refine sq rfl rfl hn rfl (q_move rfl rfl) ?_
              refine sq rfl rfl hn rfl (q_add rfl rfl rfl (r := ((i + 1 : Nat) : Int)) (i64w (by omega) (by omega))) ?_
              refine sq rfl rfl hn rfl (q_assign rfl rfl) ?_
              refine run_nil ?_
              exact aend_round_on ⟨i + 1, by omega⟩ ⟨.inl rfl, holdT_anys _⟩ trivial (by simp only; omega) (by repeat (first | exact kr _ | refine kc rfl ?_)) (by repeat (first | exact kr _ | refine kc rfl ?_))
          · skip
            refine awp_exit ?_
            refine aend_then_exit ?_
            refine aend_then_exit ?_
            refine aend_block_exit ?_
            refine aend_then ?_
            refine awp_seq ?_
            refine awp_region ?_
            refine stepW (s_call [] (fun _ => awake_ok) rfl (guard_none rfl) rfl (nb hn rfl) (fun _ => trivial) rfl rfl (.refl _)) fun _ => ?_
            refine sq rfl rfl hn rfl (q_assign rfl rfl) ?_
            refine run_nil ?_
            refine aend_then ?_
            refine awp_ret ?_
            exact ret_1 (.inl rfl) hl rfl (.tmp rfl)
end Go.Proofs.YtplpcamcnppibaaGreatDoor
