/-
  A part of the proof that contangolaw.TapeProves returns true: what the last text needs, and no more. No condition: no statement of the seat is proved here.
-/
import Derived.Laws.StructEq
import Derived.Test.YtplpcamcnppibaaGreatDoorTapeProvesM
namespace Go.Proofs.YtplpcamcnppibaaGreatDoor
open Go.RowKit
set_option linter.all false
set_option maxRecDepth 20000
theorem eqveql45 (a b c e : Int) (w : World) : (binOp .eql 45 (.agg #[.int .i64 a, .int .i64 b]) (.agg #[.int .i64 c, .int .i64 e])).run Tryz.prog w = .ok (.bool ((a == c && b == e))) w := by
  have u3 := Tryz.underlying3
  have a3 := Tryz.isAgg3
  have z3 := Tryz.sizeOf3
  have hS : Tryz.prog.underlying 45 = some (.struct (Tryz.prog.fieldsOf 45)) := by kernel_rfl
  have hp : Tryz.prog.stoodInHeld 45 = false := by kernel_rfl
  rw [run_eql_struct, show (10000 : Nat) = 9999 + 1 from rfl, run_equalIn_agg w 9999 45 _ _ hS hp]
  simp only [Program.fieldsOf, Tryz.underlying45]
  go_simp
  by_cases h1 : a = c <;> by_cases h2 : b = e <;> simp [h1, h2]
theorem q_eql45 {Γ : Cx} {σ : St} {o : Oper} {R : Rel} {x y : Operand} {t' : TypeId} {a b c d : Int} (h : o.op = .binOp .eql 45 x y t') (hx : σ.ev x = some (true, .d (.agg [.int .i64 a, .int .i64 b]))) (hy : σ.ev y = some (true, .d (.agg [.int .i64 c, .int .i64 d]))) :
    QV Γ Tryz.prog σ o R (.d (.bool ((a == c && b == d)))) := fun A w F hs => by
  obtain ⟨vs, e1, h1, _⟩ := hs.ev hx
  obtain ⟨us, e2, h2, _⟩ := hs.ev hy
  obtain ⟨v1, vs1, rfl, q1, v2, vs2, rfl, q2, q3⟩ := h1
  obtain ⟨u1, us1, rfl, p1, u2, us2, rfl, p2, p3⟩ := h2
  simp only [Rep, RepVals] at q1 q2 q3 p1 p2 p3
  subst q1 q2 q3 p1 p2 p3
  exact ⟨.bool ((a == c && b == d)), rfl, fun w' _ => by
    simp only [execOp, h, e1, e2, Sem.run_bind, run_eqGuard_agg w' .eql 45 x y _ _ (show Tryz.prog.eqGuardType Tryz.prog.depth 45 = false by kernel_rfl), Result.andThen_ok, eqveql45, Sem.run_pure]⟩
def prtB (p q : Prt) : Bool := p.stock == q.stock && ((p.nlo == q.nlo && p.nhi == q.nhi) && (p.fig == q.fig && ((p.full == q.full) && (p.minute == q.minute && (p.llo == q.llo && p.lhi == q.lhi)))))
def prtV (p : Prt) : Array Value := #[.int .i64 p.stock, .int .i64 p.nlo, .int .i64 p.nhi, .int .i64 p.fig, .bool p.full, .int .i64 p.minute, .int .i64 p.llo, .int .i64 p.lhi]
theorem rep_prt {F : Nat → Nat → Prop} {w : World} {p : Prt} {vs : List Value} (h : RepVals F w (prtE p) vs) : vs = (prtV p).toList := by
  obtain ⟨v1, _, rfl, q1, v2, _, rfl, q2, v3, _, rfl, q3, v4, _, rfl, q4, v5, _, rfl, q5, v6, _, rfl, q6, v7, _, rfl, q7, v8, _, rfl, q8, q9⟩ := h
  simp only [Rep, RepVals] at q1 q2 q3 q4 q5 q6 q7 q8 q9
  subst q1 q2 q3 q4 q5 q6 q7 q8 q9
  rfl
theorem eqveql47 (p q : Prt) (w : World) : (binOp .eql 47 (.agg (prtV p)) (.agg (prtV q))).run Tryz.prog w = .ok (.bool ((prtB p q))) w := by
  have u3 := Tryz.underlying3
  have a3 := Tryz.isAgg3
  have z3 := Tryz.sizeOf3
  have u4 := Tryz.underlying4
  have a4 := Tryz.isAgg4
  have z4 := Tryz.sizeOf4
  have a45 := Tryz.isAgg45
  have z45 := Tryz.sizeOf45
  have hS : Tryz.prog.underlying 47 = some (.struct (Tryz.prog.fieldsOf 47)) := by kernel_rfl
  have hp : Tryz.prog.stoodInHeld 47 = false := by kernel_rfl
  rw [run_eql_struct, show (10000 : Nat) = 9999 + 1 from rfl, run_equalIn_agg w 9999 47 _ _ hS hp]
  simp only [Program.fieldsOf, Tryz.underlying47, prtV, prtB]
  go_simp
  by_cases h1 : p.stock = q.stock
  · by_cases h2 : p.nlo = q.nlo
    · by_cases h3 : p.nhi = q.nhi
      · by_cases h4 : p.fig = q.fig
        · by_cases h5 : p.full = q.full
          · by_cases h6 : p.minute = q.minute
            · by_cases h7 : p.llo = q.llo
              · by_cases h8 : p.lhi = q.lhi <;> simp [h1, h2, h3, h4, h5, h6, h7, h8]
              · simp [h1, h2, h3, h4, h5, h6, h7]
            · simp [h1, h2, h3, h4, h5, h6]
          · simp [h1, h2, h3, h4, h5]
        · simp [h1, h2, h3, h4]
      · simp [h1, h2, h3]
    · simp [h1, h2]
  · simp [h1]
theorem q_eql47 {Γ : Cx} {σ : St} {o : Oper} {R : Rel} {x y : Operand} {t' : TypeId} {p q : Prt} (h : o.op = .binOp .eql 47 x y t') (hx : σ.ev x = some (true, .d (.agg (prtE p)))) (hy : σ.ev y = some (true, .d (.agg (prtE q)))) :
    QV Γ Tryz.prog σ o R (.d (.bool ((prtB p q)))) := fun A w F hs => by
  obtain ⟨vs, e1, h1, _⟩ := hs.ev hx
  obtain ⟨us, e2, h2, _⟩ := hs.ev hy
  have f1 := rep_prt h1
  have f2 := rep_prt h2
  subst f1 f2
  exact ⟨.bool ((prtB p q)), rfl, fun w' _ => by
    simp only [execOp, h, e1, e2, Sem.run_bind, run_eqGuard_agg w' .eql 47 x y _ _ (show Tryz.prog.eqGuardType Tryz.prog.depth 47 = false by kernel_rfl), Result.andThen_ok]
    rw [show (prtV p).toList.toArray = prtV p from rfl, show (prtV q).toList.toArray = prtV q from rfl, eqveql47]
    rfl⟩
end Go.Proofs.YtplpcamcnppibaaGreatDoor
namespace Go.Proofs.YtplpcamcnppibaaGreatDoor
open Go.RowKit
set_option maxRecDepth 20000
set_option linter.all false
set_option maxHeartbeats 4000000
abbrev earlyS : List UInt8 := [64, 53, 32, 65, 66, 32, 51, 115, 32, 56, 46, 50, 32, 56, 46, 53, 32, 76, 49, 45, 50, 32, 67, 32, 48, 46, 49, 32, 33, 32, 64, 55, 32, 48, 46, 55, 32, 63]
abbrev lateS : List UInt8 := [64, 53, 32, 65, 66, 32, 51, 115, 32, 56, 46, 50, 32, 76, 49, 45, 50, 32, 64, 55, 32, 56, 46, 53, 32, 67, 32, 48, 46, 49, 32, 33, 32, 64, 56, 32, 48, 46, 55, 32, 63]
abbrev wrongS : List UInt8 := [65, 66, 32, 56, 46, 50, 32, 51, 46, 48, 32, 56, 46, 53]
abbrev earlyL : List Prt := [⟨0, 3, 3, 66, false, 5, 0, 0⟩, ⟨0, 1, 1, 69, false, 5, 0, 0⟩, ⟨1, 1, 1, 1, false, 5, 1, 2⟩, ⟨1, 1, 4, 7, false, 7, 1, 2⟩]
abbrev lateL0 : List Prt := [⟨0, 3, 3, 66, false, 5, 0, 0⟩, ⟨0, 1, 1, 69, false, 7, 1, 2⟩, ⟨1, 1, 1, 1, false, 7, 1, 2⟩, ⟨1, 1, 4, 7, false, 8, 1, 2⟩]
abbrev wrongL : List Prt := [⟨0, 1, 1, 66, false, 0, 0, 0⟩, ⟨0, 1, 1, 24, false, 0, 0, 0⟩, ⟨0, 1, 1, 69, false, 0, 0, 0⟩]
theorem two_valid : checkT twoB = 0 := by kernel_rfl
theorem e_read : readI twoB earlyS = (earlyL, 0) := by rw [← ref_read two_valid]; kernel_rfl
theorem l_read : readI twoB lateS = (lateL0, 0) := by rw [← ref_read two_valid]; kernel_rfl
theorem w_read : readI twoB wrongS = (wrongL, 0) := by rw [← ref_read two_valid]; kernel_rfl
theorem e_prices : pricesI twoB earlyS = ([(306, 306), (309, 309), (81, 81), (87, 87)], 0) := by unfold pricesI; rw [e_read]; kernel_rfl
theorem l_minutes : minutesI twoB lateS = ([(5, 5), (5, 6), (5, 6), (6, 7)], 0) := by unfold minutesI; rw [l_read]; kernel_rfl
theorem l_find : findI twoB lateS ⟨0, 309, 1, 6, 9⟩ = ([1], 0) := by unfold findI; rw [l_read]; kernel_rfl
theorem w_mis : misI twoB wrongS = ([1], 0) := by unfold misI; rw [w_read]; kernel_rfl
theorem e_prove : proveI twoB earlyS [306, 309, 81, 87] = true := by unfold proveI; rw [e_read]; kernel_rfl
theorem e_write : writeI twoB [⟨0, 3, 306, 5⟩, ⟨0, 1, 309, 5⟩, ⟨1, 1, 81, 7⟩] = ([64, 53, 32, 65, 66, 32, 51, 115, 32, 56, 46, 50, 32, 56, 46, 53, 32, 64, 55, 32, 67, 32, 48, 46, 49], 0) := by kernel_rfl
theorem two_names : NamesOK twoB := fun s hs => by
  simp only [twoB, List.mem_cons, List.not_mem_nil, or_false] at hs
  rcases hs with rfl | rfl <;> simp
theorem qv_eq {Γ : Cx} {P : Program} {σ : St} {o : Oper} {R : Rel} {tv tv' : TV} (h : QV Γ P σ o R tv) (e : tv = tv') : QV Γ P σ o R tv' := e ▸ h
abbrev lateSlp : Slp := ⟨0, 309, 1, 6, 9⟩
theorem refRead_ok (b : Brd) (s : List UInt8) (hbl : b.stocks.length ≤ 1000) (h5 : s.length ≤ 4294967000) : PureAt Tryz.prog 48 [brdD b, strD s] (.tup [prtsD (refReadI b s).1, .int .i64 (refReadI b s).2]) := PureAt.of_eff (ds := [brdD b, strD s]) (refRead_eff b s hbl h5)
theorem read_law (b : Brd) (s : List UInt8) (hN : NamesOK b) (h5 : s.length ≤ 4294967000) : PureAt Tryz.prog 20 [brdD b, strD s] (.tup [prtsD (readI b s).1, .int .i64 (readI b s).2]) := by
  refine PureAt.of_awp' Tryz.func20 rfl (by kernel_rfl) rfl fun hlen Γ hn hl => ?_
  have hlb := hlen.1 3 (b.stocks.map stkE) (by simp)
  simp only [List.length_map] at hlb
  refine awp_seq ?_
  refine awp_region ?_
  refine stepW (s_box 2 rfl rfl rfl (nb hn rfl) rfl rfl) fun b2 => ?_
  refine sq rfl rfl hn rfl (q_assign rfl rfl) ?_
  refine sq rfl rfl hn rfl (q_assign rfl rfl) ?_
  refine run_nil ?_
  refine aend_then ?_
  refine awp_seq ?_
  refine awp_seq ?_
  refine awp_region ?_
  refine sq rfl rfl hn rfl (q_loadAd rfl rfl (id := 2) rfl Tryz.underlying24 rfl sz24 rfl rfl sees0) ?_
  refine stepW (s_call [] (fun _ => fault_ok _ (by assumption)) rfl (guard_none rfl) rfl (nb hn rfl) (fun _ => trivial) rfl rfl (.refl _)) fun _ => ?_
  refine sq rfl rfl hn rfl (q_assign rfl rfl) ?_
  refine run_nil ?_
  refine aend_then ?_
  refine awp_seq ?_
  refine awp_region ?_
  refine sq rfl rfl hn rfl (q_move rfl rfl) ?_
  refine sq rfl rfl hn rfl (q_neq rfl rfl rfl) ?_
  refine run_nil ?_
  refine aend_then ?_
  refine awp_cond rfl (fun hb0 => ?_) (fun hb0 => ?_)
  · skip
    have q0 : (checkT b != 0) = true := hb0
    have e1 : readI b s = ([], checkT b) := by unfold readI; rw [q0]; rfl
    rw [e1]
    refine awp_seq ?_
    refine awp_region ?_
    refine sq rfl rfl hn rfl (q_move rfl rfl) ?_
    refine sq rfl rfl hn rfl (q_assign rfl rfl) ?_
    refine sq rfl rfl hn rfl (q_assign rfl rfl) ?_
    refine run_nil ?_
    refine aend_then ?_
    refine awp_ret ?_
    refine aend_then_ret ?_
    refine ret_le (ret_2 (.inl rfl) hl rfl (.tmp rfl) (.tmp rfl)) ?_
    exact .tup (.cons (.nil 8) (.refl _))
  · skip
    have q0 : checkT b = 0 := by simpa using hb0
    have hn4 := (valid_of q0).n4
    refine awp_skip ?_
    refine aend_then ?_
    refine awp_seq ?_
    refine awp_region ?_
    refine sq rfl rfl hn rfl (q_loadAd rfl rfl (id := 2) rfl Tryz.underlying24 rfl sz24 rfl rfl sees0) ?_
    refine sq rfl rfl hn rfl (q_move rfl rfl) ?_
    refine stepW (s_call [] (fun _ => (by have h := refRead_ok b s (by omega) h5; rw [ref_read q0] at h; exact h)) rfl (guard_none rfl) rfl (nb hn rfl) (fun _ => trivial) rfl rfl (.refl _)) fun _ => ?_
    refine sq rfl rfl hn rfl (q_move rfl rfl) ?_
    refine sq rfl rfl hn rfl (q_extractd rfl rfl rfl) ?_
    refine sq rfl rfl hn rfl (q_extractd rfl rfl rfl) ?_
    refine sq rfl rfl hn rfl (q_assign rfl rfl) ?_
    refine sq rfl rfl hn rfl (q_assign rfl rfl) ?_
    refine run_nil ?_
    refine aend_then ?_
    refine awp_seq ?_
    refine awp_region ?_
    refine sq rfl rfl hn rfl (q_move rfl rfl) ?_
    refine sq rfl rfl hn rfl (q_move rfl rfl) ?_
    refine sq rfl rfl hn rfl (q_assign rfl rfl) ?_
    refine sq rfl rfl hn rfl (q_assign rfl rfl) ?_
    refine run_nil ?_
    refine aend_then ?_
    refine awp_ret ?_
    exact ret_2 (.inl rfl) hl rfl (.tmp rfl) (.tmp rfl)
theorem awake_eff  : EffAt Tryz.prog 17 [] [] (X := Unit) (fun _ => .d (.bool true)) (fun _ => []) := by
  refine EffAt.of_awp Tryz.func17 rfl (by kernel_rfl) rfl fun Γ hn => ?_
  refine awp_seq ?_
  refine awp_region ?_
  refine sq rfl rfl hn rfl (q_assign rfl rfl) ?_
  refine run_nil ?_
  refine aend_then ?_
  refine awp_seq ?_
  refine awp_region ?_
  refine stepW (s_call [] (fun _ => two_ok) rfl (guard_none rfl) rfl (nb hn rfl) (fun _ => trivial) rfl rfl (.refl _)) fun _ => ?_
  refine stepW (s_call [] (fun _ => (by have h := Read_ok twoB earlyS two_names (by decide); rw [e_read] at h; exact h)) rfl (guard_none rfl) rfl (nb hn rfl) (fun _ => trivial) rfl rfl (.refl _)) fun _ => ?_
  refine sq rfl rfl hn rfl (q_move rfl rfl) ?_
  refine sq rfl rfl hn rfl (q_extractd rfl rfl rfl) ?_
  refine sq rfl rfl hn rfl (q_extractd rfl rfl rfl) ?_
  refine sq rfl rfl hn rfl (q_assign rfl rfl) ?_
  refine sq rfl rfl hn rfl (q_assign rfl rfl) ?_
  refine run_nil ?_
  refine aend_then ?_
  refine awp_seq ?_
  refine awp_region ?_
  refine stepW (s_call [] (fun _ => two_ok) rfl (guard_none rfl) rfl (nb hn rfl) (fun _ => trivial) rfl rfl (.refl _)) fun _ => ?_
  refine stepW (s_call [] (fun _ => (by have h := Prices_ok twoB earlyS two_names (by decide); rw [e_prices] at h; exact h)) rfl (guard_none rfl) rfl (nb hn rfl) (fun _ => trivial) rfl rfl (.refl _)) fun _ => ?_
  refine sq rfl rfl hn rfl (q_move rfl rfl) ?_
  refine sq rfl rfl hn rfl (q_extractd rfl rfl rfl) ?_
  refine sq rfl rfl hn rfl (q_extractd rfl rfl rfl) ?_
  refine sq rfl rfl hn rfl (q_assign rfl rfl) ?_
  refine sq rfl rfl hn rfl (q_assign rfl rfl) ?_
  refine run_nil ?_
  refine aend_then ?_
  refine awp_seq ?_
  refine awp_region ?_
  refine stepW (s_call [] (fun _ => two_ok) rfl (guard_none rfl) rfl (nb hn rfl) (fun _ => trivial) rfl rfl (.refl _)) fun _ => ?_
  refine stepW (s_call [] (fun _ => (by have h := Minutes_ok twoB lateS two_names (by decide); rw [l_minutes] at h; exact h)) rfl (guard_none rfl) rfl (nb hn rfl) (fun _ => trivial) rfl rfl (.refl _)) fun _ => ?_
  refine sq rfl rfl hn rfl (q_move rfl rfl) ?_
  refine sq rfl rfl hn rfl (q_extractd rfl rfl rfl) ?_
  refine sq rfl rfl hn rfl (q_extractd rfl rfl rfl) ?_
  refine sq rfl rfl hn rfl (q_assign rfl rfl) ?_
  refine sq rfl rfl hn rfl (q_assign rfl rfl) ?_
  refine run_nil ?_
  refine aend_then ?_
  refine awp_seq ?_
  refine awp_region ?_
  refine stepW (s_call [] (fun _ => two_ok) rfl (guard_none rfl) rfl (nb hn rfl) (fun _ => trivial) rfl rfl (.refl _)) fun _ => ?_
  refine stepW (s_call [] (fun _ => between_ok _ _) rfl (guard_none rfl) rfl (nb hn rfl) (fun _ => trivial) rfl rfl (.refl _)) fun _ => ?_
  refine sq rfl rfl hn rfl (q_buildd rfl bt61 rfl rfl rfl rfl rfl) ?_
  refine stepW (s_call [] (fun _ => (by have h := Find_ok twoB lateS lateSlp two_names (by decide); rw [l_find] at h; exact h)) rfl (guard_none rfl) rfl (nb hn rfl) (fun _ => trivial) rfl rfl (by first | exact .refl _ | (repeat (first | exact .refl _ | exact .nil _ | refine .cons ?_ ?_ | refine .agg ?_ | refine .tup ?_)))) fun _ => ?_
  refine sq rfl rfl hn rfl (q_move rfl rfl) ?_
  refine sq rfl rfl hn rfl (q_extractd rfl rfl rfl) ?_
  refine sq rfl rfl hn rfl (q_extractd rfl rfl rfl) ?_
  refine sq rfl rfl hn rfl (q_assign rfl rfl) ?_
  refine sq rfl rfl hn rfl (q_assign rfl rfl) ?_
  refine run_nil ?_
  refine aend_then ?_
  refine awp_seq ?_
  refine awp_region ?_
  refine stepW (s_call [] (fun _ => two_ok) rfl (guard_none rfl) rfl (nb hn rfl) (fun _ => trivial) rfl rfl (.refl _)) fun _ => ?_
  refine stepW (s_call [] (fun _ => (by have h := Misprints_ok twoB wrongS two_names (by decide); rw [w_mis] at h; exact h)) rfl (guard_none rfl) rfl (nb hn rfl) (fun _ => trivial) rfl rfl (.refl _)) fun _ => ?_
  refine sq rfl rfl hn rfl (q_move rfl rfl) ?_
  refine sq rfl rfl hn rfl (q_extractd rfl rfl rfl) ?_
  refine sq rfl rfl hn rfl (q_extractd rfl rfl rfl) ?_
  refine sq rfl rfl hn rfl (q_assign rfl rfl) ?_
  refine sq rfl rfl hn rfl (q_assign rfl rfl) ?_
  refine run_nil ?_
  refine aend_then ?_
  refine awp_seq ?_
  refine awp_region ?_
  refine stepW (s_call [] (fun _ => two_ok) rfl (guard_none rfl) rfl (nb hn rfl) (fun _ => trivial) rfl rfl (.refl _)) fun _ => ?_
  refine sq rfl rfl hn rfl (q_buildd rfl bt115 rfl rfl rfl rfl rfl) ?_
  refine sq rfl rfl hn rfl (q_buildd rfl bt115 rfl rfl rfl rfl rfl) ?_
  refine sq rfl rfl hn rfl (q_buildd rfl bt115 rfl rfl rfl rfl rfl) ?_
  refine stepW (s_buildSlice rfl rfl rfl (nb hn rfl) Tryz.underlying73 sz115 zr115 rfl rfl rfl (show _ = [.d (.int .i64 0), .d (.int .i64 0), .d (.int .i64 0), .d (.int .i64 0), .d (.int .i64 0), .d (.int .i64 0), .d (.int .i64 0), .d (.int .i64 0), .d (.int .i64 0), .d (.int .i64 0), .d (.int .i64 0), .d (.int .i64 0)] from by kernel_rfl) (by kernel_rfl) rfl rfl rfl rfl rfl) fun _ => ?_
  refine stepW (s_call [] (fun _ => (by have h := Write_ok twoB [⟨0, 3, 306, 5⟩, ⟨0, 1, 309, 5⟩, ⟨1, 1, 81, 7⟩] two_names; rw [e_write] at h; exact h)) rfl (guard_none rfl) rfl (nb hn rfl) (fun _ => trivial) rfl rfl (.refl _)) fun _ => ?_
  refine sq rfl rfl hn rfl (q_move rfl rfl) ?_
  refine sq rfl rfl hn rfl (q_extractd rfl rfl rfl) ?_
  refine sq rfl rfl hn rfl (q_extractd rfl rfl rfl) ?_
  refine sq rfl rfl hn rfl (q_assign rfl rfl) ?_
  refine sq rfl rfl hn rfl (q_assign rfl rfl) ?_
  refine run_nil ?_
  refine aend_then ?_
  refine awp_seq ?_
  refine d_start (W := fun b => True) fmo ?_
  refine d1q (i := 0) rfl (by as_aux_lemma => kernel_rfl) (fun _ _ _ _ h => h) rfl rfl hn rfl (q_move rfl rfl) ?_
  refine d1q (i := 1) rfl (by as_aux_lemma => kernel_rfl) (fun _ _ _ _ h => h) rfl rfl hn rfl (qv_eq (tv' := .d (.bool true)) (q_eql rfl rfl rfl) rfl) ?_
  refine d1q (i := 2) rfl (by as_aux_lemma => kernel_rfl) (fun _ _ _ _ h => h) rfl rfl hn rfl (q_move rfl rfl) ?_
  refine d1g (i := 3) [] rfl (by as_aux_lemma => kernel_rfl) (fun _ _ _ _ h => h) (guard_some rfl rfl rfl) rfl hn rfl (fun hc => trivial) (fun hc => q_move rfl rfl) ?_
  refine d1g (i := 4) [(52, _)] rfl (by as_aux_lemma => kernel_rfl) (fun _ _ _ _ h => h) (guard_some rfl rfl rfl) rfl hn rfl (fun hc => ⟨⟨_, rfl, hc⟩, trivial⟩) (fun hc => q_len rfl rfl Tryz.underlying27) ?_
  refine d1g (i := 5) [(53, _)] rfl (by as_aux_lemma => kernel_rfl) (fun _ _ _ _ h => h) (guard_some rfl rfl rfl) rfl hn rfl (fun hc => ⟨⟨_, rfl, hc⟩, trivial⟩) (fun hc => qv_eq (tv' := .d (.bool true)) (q_eql rfl rfl rfl) rfl) ?_
  refine d1q (i := 6) rfl (by as_aux_lemma => kernel_rfl) (fun _ _ _ _ h => h) rfl rfl hn rfl (qv_eq (tv' := .d (.bool true)) (q_and rfl rfl rfl (by intro hB; first | (rw [hB]; rfl) | (rw [hB, hc]; rfl) | simp_all)) rfl) ?_
  refine d1q (i := 7) rfl (by as_aux_lemma => kernel_rfl) (fun _ _ _ _ h => h) rfl rfl hn rfl (q_move rfl rfl) ?_
  refine d1g (i := 8) [] rfl (by as_aux_lemma => kernel_rfl) (fun _ _ _ _ h => h) (guard_some rfl rfl rfl) rfl hn rfl (fun hc => trivial) (fun hc => q_move rfl rfl) ?_
  refine d1g (i := 9) [(57, _)] rfl (by as_aux_lemma => kernel_rfl) (fun _ _ _ _ h => h) (guard_some rfl rfl rfl) rfl hn rfl (fun hc => ⟨⟨_, rfl, hc⟩, trivial⟩) (fun hc => q_index (i := 3) rfl rfl rfl Tryz.underlying27 sz47 rfl rfl) ?_
  refine d1g (i := 10) [(58, _)] rfl (by as_aux_lemma => kernel_rfl) (fun _ _ _ _ h => h) (guard_some rfl rfl rfl) rfl hn rfl (fun hc => ⟨⟨_, rfl, hc⟩, trivial⟩) (fun hc => q_loadpA rfl rfl Tryz.underlying47 rfl sz47 rfl rfl seesFA) ?_
  refine d1_of_d2 ?_
  refine d2_one (i := 11) (by as_aux_lemma => kernel_rfl) rfl (s_call [] (fun hc => between_ok _ _) rfl (guard_some rfl rfl rfl) rfl (nb hn rfl) (fun hc => trivial) rfl rfl (.refl _)) fun _ => ?_
  refine d2_of_d1 ?_
  refine d1_of_d2 ?_
  refine d2_one (i := 12) (by as_aux_lemma => kernel_rfl) rfl (s_call [] (fun hc => between_ok _ _) rfl (guard_some rfl rfl rfl) rfl (nb hn rfl) (fun hc => trivial) rfl rfl (.refl _)) fun _ => ?_
  refine d2_of_d1 ?_
  refine d1g (i := 13) [(60, _), (61, _)] rfl (by as_aux_lemma => kernel_rfl) (fun _ _ _ _ h => h) (guard_some rfl rfl rfl) rfl hn rfl (fun hc => ⟨⟨_, rfl, hc⟩, ⟨_, rfl, hc⟩, trivial⟩) (fun hc => q_buildd rfl bt47 rfl rfl rfl rfl rfl) ?_
  refine d1g (i := 14) [(59, _), (62, _)] rfl (by as_aux_lemma => kernel_rfl) (fun _ _ _ _ h => h) (guard_some rfl rfl rfl) rfl hn rfl (fun hc => ⟨⟨_, rfl, hc⟩, ⟨_, rfl, hc⟩, trivial⟩) (fun hc => qv_eq (tv' := .d (.bool true)) (q_eql47 (p := ⟨1, 1, 4, 7, false, 7, 1, 2⟩) (q := ⟨1, 1, 4, 7, false, 7, 1, 2⟩) rfl rfl rfl) rfl) ?_
  refine d1q (i := 15) rfl (by as_aux_lemma => kernel_rfl) (fun _ _ _ _ h => h) rfl rfl hn rfl (qv_eq (tv' := .d (.bool true)) (q_and rfl rfl rfl (by intro hB; first | (rw [hB]; rfl) | (rw [hB, hc]; rfl) | simp_all)) rfl) ?_
  refine d1q (i := 16) rfl (by as_aux_lemma => kernel_rfl) (fun _ _ _ _ h => h) rfl rfl hn rfl (q_move rfl rfl) ?_
  refine d1g (i := 17) [] rfl (by as_aux_lemma => kernel_rfl) (fun _ _ _ _ h => h) (guard_some rfl rfl rfl) rfl hn rfl (fun hc => trivial) (fun hc => q_move rfl rfl) ?_
  refine d1g (i := 18) [(66, _)] rfl (by as_aux_lemma => kernel_rfl) (fun _ _ _ _ h => h) (guard_some rfl rfl rfl) rfl hn rfl (fun hc => ⟨⟨_, rfl, hc⟩, trivial⟩) (fun hc => qv_eq (tv' := .d (.bool true)) (q_eql rfl rfl rfl) rfl) ?_
  refine d1q (i := 19) rfl (by as_aux_lemma => kernel_rfl) (fun _ _ _ _ h => h) rfl rfl hn rfl (qv_eq (tv' := .d (.bool true)) (q_and rfl rfl rfl (by intro hB; first | (rw [hB]; rfl) | (rw [hB, hc]; rfl) | simp_all)) rfl) ?_
  refine d1q (i := 20) rfl (by as_aux_lemma => kernel_rfl) (fun _ _ _ _ h => h) rfl rfl hn rfl (q_move rfl rfl) ?_
  refine d1g (i := 21) [] rfl (by as_aux_lemma => kernel_rfl) (fun _ _ _ _ h => h) (guard_some rfl rfl rfl) rfl hn rfl (fun hc => trivial) (fun hc => q_move rfl rfl) ?_
  refine d1g (i := 22) [(70, _)] rfl (by as_aux_lemma => kernel_rfl) (fun _ _ _ _ h => h) (guard_some rfl rfl rfl) rfl hn rfl (fun hc => ⟨⟨_, rfl, hc⟩, trivial⟩) (fun hc => q_len rfl rfl Tryz.underlying48) ?_
  refine d1g (i := 23) [(71, _)] rfl (by as_aux_lemma => kernel_rfl) (fun _ _ _ _ h => h) (guard_some rfl rfl rfl) rfl hn rfl (fun hc => ⟨⟨_, rfl, hc⟩, trivial⟩) (fun hc => qv_eq (tv' := .d (.bool true)) (q_eql rfl rfl rfl) rfl) ?_
  refine d1q (i := 24) rfl (by as_aux_lemma => kernel_rfl) (fun _ _ _ _ h => h) rfl rfl hn rfl (qv_eq (tv' := .d (.bool true)) (q_and rfl rfl rfl (by intro hB; first | (rw [hB]; rfl) | (rw [hB, hc]; rfl) | simp_all)) rfl) ?_
  refine d1q (i := 25) rfl (by as_aux_lemma => kernel_rfl) (fun _ _ _ _ h => h) rfl rfl hn rfl (q_move rfl rfl) ?_
  refine d1g (i := 26) [] rfl (by as_aux_lemma => kernel_rfl) (fun _ _ _ _ h => h) (guard_some rfl rfl rfl) rfl hn rfl (fun hc => trivial) (fun hc => q_move rfl rfl) ?_
  refine d1g (i := 27) [(75, _)] rfl (by as_aux_lemma => kernel_rfl) (fun _ _ _ _ h => h) (guard_some rfl rfl rfl) rfl hn rfl (fun hc => ⟨⟨_, rfl, hc⟩, trivial⟩) (fun hc => q_index (i := 0) rfl rfl rfl Tryz.underlying48 sz45 rfl rfl) ?_
  refine d1g (i := 28) [(76, _)] rfl (by as_aux_lemma => kernel_rfl) (fun _ _ _ _ h => h) (guard_some rfl rfl rfl) rfl hn rfl (fun hc => ⟨⟨_, rfl, hc⟩, trivial⟩) (fun hc => q_loadpA rfl rfl Tryz.underlying45 rfl sz45 rfl rfl seesFA) ?_
  refine d1_of_d2 ?_
  refine d2_one (i := 29) (by as_aux_lemma => kernel_rfl) rfl (s_call [] (fun hc => between_ok _ _) rfl (guard_some rfl rfl rfl) rfl (nb hn rfl) (fun hc => trivial) rfl rfl (.refl _)) fun _ => ?_
  refine d2_of_d1 ?_
  refine d1g (i := 30) [(77, _), (78, _)] rfl (by as_aux_lemma => kernel_rfl) (fun _ _ _ _ h => h) (guard_some rfl rfl rfl) rfl hn rfl (fun hc => ⟨⟨_, rfl, hc⟩, ⟨_, rfl, hc⟩, trivial⟩) (fun hc => qv_eq (tv' := .d (.bool true)) (q_eql45 rfl rfl rfl) rfl) ?_
  refine d1q (i := 31) rfl (by as_aux_lemma => kernel_rfl) (fun _ _ _ _ h => h) rfl rfl hn rfl (qv_eq (tv' := .d (.bool true)) (q_and rfl rfl rfl (by intro hB; first | (rw [hB]; rfl) | (rw [hB, hc]; rfl) | simp_all)) rfl) ?_
  refine d1q (i := 32) rfl (by as_aux_lemma => kernel_rfl) (fun _ _ _ _ h => h) rfl rfl hn rfl (q_move rfl rfl) ?_
  refine d1g (i := 33) [] rfl (by as_aux_lemma => kernel_rfl) (fun _ _ _ _ h => h) (guard_some rfl rfl rfl) rfl hn rfl (fun hc => trivial) (fun hc => q_move rfl rfl) ?_
  refine d1g (i := 34) [(82, _)] rfl (by as_aux_lemma => kernel_rfl) (fun _ _ _ _ h => h) (guard_some rfl rfl rfl) rfl hn rfl (fun hc => ⟨⟨_, rfl, hc⟩, trivial⟩) (fun hc => q_index (i := 3) rfl rfl rfl Tryz.underlying48 sz45 rfl rfl) ?_
  refine d1g (i := 35) [(83, _)] rfl (by as_aux_lemma => kernel_rfl) (fun _ _ _ _ h => h) (guard_some rfl rfl rfl) rfl hn rfl (fun hc => ⟨⟨_, rfl, hc⟩, trivial⟩) (fun hc => q_loadpA rfl rfl Tryz.underlying45 rfl sz45 rfl rfl seesFA) ?_
  refine d1_of_d2 ?_
  refine d2_one (i := 36) (by as_aux_lemma => kernel_rfl) rfl (s_call [] (fun hc => between_ok _ _) rfl (guard_some rfl rfl rfl) rfl (nb hn rfl) (fun hc => trivial) rfl rfl (.refl _)) fun _ => ?_
  refine d2_of_d1 ?_
  refine d1g (i := 37) [(84, _), (85, _)] rfl (by as_aux_lemma => kernel_rfl) (fun _ _ _ _ h => h) (guard_some rfl rfl rfl) rfl hn rfl (fun hc => ⟨⟨_, rfl, hc⟩, ⟨_, rfl, hc⟩, trivial⟩) (fun hc => qv_eq (tv' := .d (.bool true)) (q_eql45 rfl rfl rfl) rfl) ?_
  refine d1q (i := 38) rfl (by as_aux_lemma => kernel_rfl) (fun _ _ _ _ h => h) rfl rfl hn rfl (qv_eq (tv' := .d (.bool true)) (q_and rfl rfl rfl (by intro hB; first | (rw [hB]; rfl) | (rw [hB, hc]; rfl) | simp_all)) rfl) ?_
  refine d1q (i := 39) rfl (by as_aux_lemma => kernel_rfl) (fun _ _ _ _ h => h) rfl rfl hn rfl (q_move rfl rfl) ?_
  refine d1g (i := 40) [] rfl (by as_aux_lemma => kernel_rfl) (fun _ _ _ _ h => h) (guard_some rfl rfl rfl) rfl hn rfl (fun hc => trivial) (fun hc => q_move rfl rfl) ?_
  refine d1g (i := 41) [(89, _)] rfl (by as_aux_lemma => kernel_rfl) (fun _ _ _ _ h => h) (guard_some rfl rfl rfl) rfl hn rfl (fun hc => ⟨⟨_, rfl, hc⟩, trivial⟩) (fun hc => qv_eq (tv' := .d (.bool true)) (q_eql rfl rfl rfl) rfl) ?_
  refine d1q (i := 42) rfl (by as_aux_lemma => kernel_rfl) (fun _ _ _ _ h => h) rfl rfl hn rfl (qv_eq (tv' := .d (.bool true)) (q_and rfl rfl rfl (by intro hB; first | (rw [hB]; rfl) | (rw [hB, hc]; rfl) | simp_all)) rfl) ?_
  refine d1q (i := 43) rfl (by as_aux_lemma => kernel_rfl) (fun _ _ _ _ h => h) rfl rfl hn rfl (q_move rfl rfl) ?_
  refine d1g (i := 44) [] rfl (by as_aux_lemma => kernel_rfl) (fun _ _ _ _ h => h) (guard_some rfl rfl rfl) rfl hn rfl (fun hc => trivial) (fun hc => q_move rfl rfl) ?_
  refine d1g (i := 45) [(93, _)] rfl (by as_aux_lemma => kernel_rfl) (fun _ _ _ _ h => h) (guard_some rfl rfl rfl) rfl hn rfl (fun hc => ⟨⟨_, rfl, hc⟩, trivial⟩) (fun hc => q_len rfl rfl Tryz.underlying48) ?_
  refine d1g (i := 46) [(94, _)] rfl (by as_aux_lemma => kernel_rfl) (fun _ _ _ _ h => h) (guard_some rfl rfl rfl) rfl hn rfl (fun hc => ⟨⟨_, rfl, hc⟩, trivial⟩) (fun hc => qv_eq (tv' := .d (.bool true)) (q_eql rfl rfl rfl) rfl) ?_
  refine d1q (i := 47) rfl (by as_aux_lemma => kernel_rfl) (fun _ _ _ _ h => h) rfl rfl hn rfl (qv_eq (tv' := .d (.bool true)) (q_and rfl rfl rfl (by intro hB; first | (rw [hB]; rfl) | (rw [hB, hc]; rfl) | simp_all)) rfl) ?_
  refine d1q (i := 48) rfl (by as_aux_lemma => kernel_rfl) (fun _ _ _ _ h => h) rfl rfl hn rfl (q_move rfl rfl) ?_
  refine d1g (i := 49) [] rfl (by as_aux_lemma => kernel_rfl) (fun _ _ _ _ h => h) (guard_some rfl rfl rfl) rfl hn rfl (fun hc => trivial) (fun hc => q_move rfl rfl) ?_
  refine d1g (i := 50) [(98, _)] rfl (by as_aux_lemma => kernel_rfl) (fun _ _ _ _ h => h) (guard_some rfl rfl rfl) rfl hn rfl (fun hc => ⟨⟨_, rfl, hc⟩, trivial⟩) (fun hc => q_index (i := 1) rfl rfl rfl Tryz.underlying48 sz45 rfl rfl) ?_
  refine d1g (i := 51) [(99, _)] rfl (by as_aux_lemma => kernel_rfl) (fun _ _ _ _ h => h) (guard_some rfl rfl rfl) rfl hn rfl (fun hc => ⟨⟨_, rfl, hc⟩, trivial⟩) (fun hc => q_loadpA rfl rfl Tryz.underlying45 rfl sz45 rfl rfl seesFA) ?_
  refine d1_of_d2 ?_
  refine d2_one (i := 52) (by as_aux_lemma => kernel_rfl) rfl (s_call [] (fun hc => between_ok _ _) rfl (guard_some rfl rfl rfl) rfl (nb hn rfl) (fun hc => trivial) rfl rfl (.refl _)) fun _ => ?_
  refine d2_of_d1 ?_
  refine d1g (i := 53) [(100, _), (101, _)] rfl (by as_aux_lemma => kernel_rfl) (fun _ _ _ _ h => h) (guard_some rfl rfl rfl) rfl hn rfl (fun hc => ⟨⟨_, rfl, hc⟩, ⟨_, rfl, hc⟩, trivial⟩) (fun hc => qv_eq (tv' := .d (.bool true)) (q_eql45 rfl rfl rfl) rfl) ?_
  refine d1q (i := 54) rfl (by as_aux_lemma => kernel_rfl) (fun _ _ _ _ h => h) rfl rfl hn rfl (qv_eq (tv' := .d (.bool true)) (q_and rfl rfl rfl (by intro hB; first | (rw [hB]; rfl) | (rw [hB, hc]; rfl) | simp_all)) rfl) ?_
  refine d1q (i := 55) rfl (by as_aux_lemma => kernel_rfl) (fun _ _ _ _ h => h) rfl rfl hn rfl (q_move rfl rfl) ?_
  refine d1g (i := 56) [] rfl (by as_aux_lemma => kernel_rfl) (fun _ _ _ _ h => h) (guard_some rfl rfl rfl) rfl hn rfl (fun hc => trivial) (fun hc => q_move rfl rfl) ?_
  refine d1g (i := 57) [(105, _)] rfl (by as_aux_lemma => kernel_rfl) (fun _ _ _ _ h => h) (guard_some rfl rfl rfl) rfl hn rfl (fun hc => ⟨⟨_, rfl, hc⟩, trivial⟩) (fun hc => q_index (i := 3) rfl rfl rfl Tryz.underlying48 sz45 rfl rfl) ?_
  refine d1g (i := 58) [(106, _)] rfl (by as_aux_lemma => kernel_rfl) (fun _ _ _ _ h => h) (guard_some rfl rfl rfl) rfl hn rfl (fun hc => ⟨⟨_, rfl, hc⟩, trivial⟩) (fun hc => q_loadpA rfl rfl Tryz.underlying45 rfl sz45 rfl rfl seesFA) ?_
  refine d1_of_d2 ?_
  refine d2_one (i := 59) (by as_aux_lemma => kernel_rfl) rfl (s_call [] (fun hc => between_ok _ _) rfl (guard_some rfl rfl rfl) rfl (nb hn rfl) (fun hc => trivial) rfl rfl (.refl _)) fun _ => ?_
  refine d2_of_d1 ?_
  refine d1g (i := 60) [(107, _), (108, _)] rfl (by as_aux_lemma => kernel_rfl) (fun _ _ _ _ h => h) (guard_some rfl rfl rfl) rfl hn rfl (fun hc => ⟨⟨_, rfl, hc⟩, ⟨_, rfl, hc⟩, trivial⟩) (fun hc => qv_eq (tv' := .d (.bool true)) (q_eql45 rfl rfl rfl) rfl) ?_
  refine d1q (i := 61) rfl (by as_aux_lemma => kernel_rfl) (fun _ _ _ _ h => h) rfl rfl hn rfl (qv_eq (tv' := .d (.bool true)) (q_and rfl rfl rfl (by intro hB; first | (rw [hB]; rfl) | (rw [hB, hc]; rfl) | simp_all)) rfl) ?_
  refine d1q (i := 62) rfl (by as_aux_lemma => kernel_rfl) (fun _ _ _ _ h => h) rfl rfl hn rfl (q_move rfl rfl) ?_
  refine d1g (i := 63) [] rfl (by as_aux_lemma => kernel_rfl) (fun _ _ _ _ h => h) (guard_some rfl rfl rfl) rfl hn rfl (fun hc => trivial) (fun hc => q_move rfl rfl) ?_
  refine d1g (i := 64) [(112, _)] rfl (by as_aux_lemma => kernel_rfl) (fun _ _ _ _ h => h) (guard_some rfl rfl rfl) rfl hn rfl (fun hc => ⟨⟨_, rfl, hc⟩, trivial⟩) (fun hc => qv_eq (tv' := .d (.bool true)) (q_eql rfl rfl rfl) rfl) ?_
  refine d1q (i := 65) rfl (by as_aux_lemma => kernel_rfl) (fun _ _ _ _ h => h) rfl rfl hn rfl (qv_eq (tv' := .d (.bool true)) (q_and rfl rfl rfl (by intro hB; first | (rw [hB]; rfl) | (rw [hB, hc]; rfl) | simp_all)) rfl) ?_
  refine d1q (i := 66) rfl (by as_aux_lemma => kernel_rfl) (fun _ _ _ _ h => h) rfl rfl hn rfl (q_move rfl rfl) ?_
  refine d1g (i := 67) [] rfl (by as_aux_lemma => kernel_rfl) (fun _ _ _ _ h => h) (guard_some rfl rfl rfl) rfl hn rfl (fun hc => trivial) (fun hc => q_move rfl rfl) ?_
  refine d1_of_d2 ?_
  refine d2_one (i := 68) (by as_aux_lemma => kernel_rfl) rfl (s_guard (guard_some rfl rfl rfl) rfl (nb hn rfl) (s_buildSlice rfl rfl rfl (nb hn rfl) Tryz.underlying57 sz3 zr3 rfl rfl rfl (show _ = [.d (.int .i64 0)] from by kernel_rfl) (by kernel_rfl) rfl rfl rfl rfl rfl)) fun _ => ?_
  refine d2_of_d1 ?_
  refine d1_of_d2 ?_
  refine d2_one (i := 69) (by as_aux_lemma => kernel_rfl) rfl (s_call [(116, _), (117, _)] (fun hc => ints_ok [1] [1]) rfl (guard_some rfl rfl rfl) rfl (nb hn rfl) (fun hc => ⟨⟨_, rfl, hc⟩, ⟨_, rfl, hc⟩, trivial⟩) rfl rfl (.refl _)) fun _ => ?_
  refine d2_of_d1 ?_
  refine d1q (i := 70) rfl (by as_aux_lemma => kernel_rfl) (fun _ _ _ _ h => h) rfl rfl hn rfl (qv_eq (tv' := .d (.bool true)) (q_and rfl rfl rfl (by intro hB; first | (rw [hB]; rfl) | (rw [hB, hc]; rfl) | simp_all)) rfl) ?_
  refine d1q (i := 71) rfl (by as_aux_lemma => kernel_rfl) (fun _ _ _ _ h => h) rfl rfl hn rfl (q_move rfl rfl) ?_
  refine d1g (i := 72) [] rfl (by as_aux_lemma => kernel_rfl) (fun _ _ _ _ h => h) (guard_some rfl rfl rfl) rfl hn rfl (fun hc => trivial) (fun hc => q_move rfl rfl) ?_
  refine d1g (i := 73) [(121, _)] rfl (by as_aux_lemma => kernel_rfl) (fun _ _ _ _ h => h) (guard_some rfl rfl rfl) rfl hn rfl (fun hc => ⟨⟨_, rfl, hc⟩, trivial⟩) (fun hc => qv_eq (tv' := .d (.bool true)) (q_eql rfl rfl rfl) rfl) ?_
  refine d1q (i := 74) rfl (by as_aux_lemma => kernel_rfl) (fun _ _ _ _ h => h) rfl rfl hn rfl (qv_eq (tv' := .d (.bool true)) (q_and rfl rfl rfl (by intro hB; first | (rw [hB]; rfl) | (rw [hB, hc]; rfl) | simp_all)) rfl) ?_
  refine d1q (i := 75) rfl (by as_aux_lemma => kernel_rfl) (fun _ _ _ _ h => h) rfl rfl hn rfl (q_move rfl rfl) ?_
  refine d1g (i := 76) [] rfl (by as_aux_lemma => kernel_rfl) (fun _ _ _ _ h => h) (guard_some rfl rfl rfl) rfl hn rfl (fun hc => trivial) (fun hc => q_move rfl rfl) ?_
  refine d1_of_d2 ?_
  refine d2_one (i := 77) (by as_aux_lemma => kernel_rfl) rfl (s_guard (guard_some rfl rfl rfl) rfl (nb hn rfl) (s_buildSlice rfl rfl rfl (nb hn rfl) Tryz.underlying57 sz3 zr3 rfl rfl rfl (show _ = [.d (.int .i64 0)] from by kernel_rfl) (by kernel_rfl) rfl rfl rfl rfl rfl)) fun _ => ?_
  refine d2_of_d1 ?_
  refine d1_of_d2 ?_
  refine d2_one (i := 78) (by as_aux_lemma => kernel_rfl) rfl (s_call [(125, _), (126, _)] (fun hc => ints_ok [1] [1]) rfl (guard_some rfl rfl rfl) rfl (nb hn rfl) (fun hc => ⟨⟨_, rfl, hc⟩, ⟨_, rfl, hc⟩, trivial⟩) rfl rfl (.refl _)) fun _ => ?_
  refine d2_of_d1 ?_
  refine d1q (i := 79) rfl (by as_aux_lemma => kernel_rfl) (fun _ _ _ _ h => h) rfl rfl hn rfl (qv_eq (tv' := .d (.bool true)) (q_and rfl rfl rfl (by intro hB; first | (rw [hB]; rfl) | (rw [hB, hc]; rfl) | simp_all)) rfl) ?_
  refine d1q (i := 80) rfl (by as_aux_lemma => kernel_rfl) (fun _ _ _ _ h => h) rfl rfl hn rfl (q_move rfl rfl) ?_
  refine d1g (i := 81) [] rfl (by as_aux_lemma => kernel_rfl) (fun _ _ _ _ h => h) (guard_some rfl rfl rfl) rfl hn rfl (fun hc => trivial) (fun hc => q_move rfl rfl) ?_
  refine d1g (i := 82) [(130, _)] rfl (by as_aux_lemma => kernel_rfl) (fun _ _ _ _ h => h) (guard_some rfl rfl rfl) rfl hn rfl (fun hc => ⟨⟨_, rfl, hc⟩, trivial⟩) (fun hc => qv_eq (tv' := .d (.bool true)) (q_eql rfl rfl rfl) rfl) ?_
  refine d1q (i := 83) rfl (by as_aux_lemma => kernel_rfl) (fun _ _ _ _ h => h) rfl rfl hn rfl (qv_eq (tv' := .d (.bool true)) (q_and rfl rfl rfl (by intro hB; first | (rw [hB]; rfl) | (rw [hB, hc]; rfl) | simp_all)) rfl) ?_
  refine d1q (i := 84) rfl (by as_aux_lemma => kernel_rfl) (fun _ _ _ _ h => h) rfl rfl hn rfl (q_move rfl rfl) ?_
  refine d1g (i := 85) [] rfl (by as_aux_lemma => kernel_rfl) (fun _ _ _ _ h => h) (guard_some rfl rfl rfl) rfl hn rfl (fun hc => trivial) (fun hc => q_move rfl rfl) ?_
  refine d1g (i := 86) [(134, _)] rfl (by as_aux_lemma => kernel_rfl) (fun _ _ _ _ h => h) (guard_some rfl rfl rfl) rfl hn rfl (fun hc => ⟨⟨_, rfl, hc⟩, trivial⟩) (fun hc => qv_eq (tv' := .d (.bool true)) (q_eqlS rfl rfl rfl) rfl) ?_
  refine d1q (i := 87) rfl (by as_aux_lemma => kernel_rfl) (fun _ _ _ _ h => h) rfl rfl hn rfl (qv_eq (tv' := .d (.bool true)) (q_and rfl rfl rfl (by intro hB; first | (rw [hB]; rfl) | (rw [hB, hc]; rfl) | simp_all)) rfl) ?_
  refine d1q (i := 88) rfl (by as_aux_lemma => kernel_rfl) (fun _ _ _ _ h => h) rfl rfl hn rfl (q_move rfl rfl) ?_
  refine d1_of_d2 ?_
  refine d2_all 89 [90] (by kernel_rfl) ⟨?_, ?_, trivial⟩
  · skip
    refine br rfl (s_call [] (fun hc => two_ok) rfl (guard_some rfl rfl rfl) rfl (nb hn rfl) (fun hc => trivial) rfl rfl (.refl _)) fun _ => ?_
    refine d2_of_d1 ?_
    refine d1_of_d2 ?_
    refine d2_one (i := 90) (by as_aux_lemma => kernel_rfl) rfl (s_guard (guard_some rfl rfl rfl) rfl (nb hn rfl) (s_buildSlice rfl rfl rfl (nb hn rfl) Tryz.underlying57 sz3 zr3 rfl rfl rfl (show _ = [.d (.int .i64 0), .d (.int .i64 0), .d (.int .i64 0), .d (.int .i64 0)] from by kernel_rfl) (by kernel_rfl) rfl rfl rfl rfl rfl)) fun _ => ?_
    refine d2_of_d1 ?_
    refine d1_of_d2 ?_
    refine d2_one (i := 91) (by as_aux_lemma => kernel_rfl) rfl (s_call [(138, _), (139, _)] (fun hc => (by have h := ProveTruth_ok twoB earlyS [306, 309, 81, 87] two_names (by decide); rw [e_prove] at h; exact h)) rfl (guard_some rfl rfl rfl) rfl (nb hn rfl) (fun hc => ⟨⟨_, rfl, hc⟩, ⟨_, rfl, hc⟩, trivial⟩) rfl rfl (.refl _)) fun _ => ?_
    refine d2_of_d1 ?_
    refine d1q (i := 92) rfl (by as_aux_lemma => kernel_rfl) (fun _ _ _ _ h => h) rfl rfl hn rfl (qv_eq (tv' := .d (.bool true)) (q_and rfl rfl rfl (by intro hB; first | (rw [hB]; rfl) | (rw [hB, hc]; rfl) | simp_all)) rfl) ?_
    refine d1q (i := 93) rfl (by as_aux_lemma => kernel_rfl) (fun _ _ _ _ h => h) rfl rfl hn rfl (q_assign rfl rfl) ?_
    refine d1_of_d2 ?_
    refine d2_done (by as_aux_lemma => kernel_rfl) ?_
    refine aend_then ?_
    refine awp_ret ?_
    exact ret_E (.inl rfl) () ((hands_1 rfl (.tmp rfl)).eq (by rfl)) trivial
  · skip
    refine br rfl (s_guard (guard_some rfl rfl rfl) rfl (nb hn rfl) (s_buildSlice rfl rfl rfl (nb hn rfl) Tryz.underlying57 sz3 zr3 rfl rfl rfl (show _ = [.d (.int .i64 0), .d (.int .i64 0), .d (.int .i64 0), .d (.int .i64 0)] from by kernel_rfl) (by kernel_rfl) rfl rfl rfl rfl rfl)) fun _ => ?_
    refine d2_of_d1 ?_
    refine d1_of_d2 ?_
    refine d2_one (i := 89) (by kernel_rfl) rfl (s_call [] (fun hc => two_ok) rfl (guard_some rfl rfl rfl) rfl (nb hn rfl) (fun hc => trivial) rfl rfl (.refl _)) fun _ => ?_
    refine d2_of_d1 ?_
    refine d1_of_d2 ?_
    refine d2_one (i := 91) (by kernel_rfl) rfl (s_call [(138, _), (139, _)] (fun hc => (by have h := ProveTruth_ok twoB earlyS [306, 309, 81, 87] two_names (by decide); rw [e_prove] at h; exact h)) rfl (guard_some rfl rfl rfl) rfl (nb hn rfl) (fun hc => ⟨⟨_, rfl, hc⟩, ⟨_, rfl, hc⟩, trivial⟩) rfl rfl (.refl _)) fun _ => ?_
    refine d2_of_d1 ?_
    refine d1q (i := 92) rfl (by kernel_rfl) (fun _ _ _ _ h => h) rfl rfl hn rfl (qv_eq (tv' := .d (.bool true)) (q_and rfl rfl rfl (by intro hB; first | (rw [hB]; rfl) | (rw [hB, hc]; rfl) | simp_all)) rfl) ?_
    refine d1q (i := 93) rfl (by kernel_rfl) (fun _ _ _ _ h => h) rfl rfl hn rfl (q_assign rfl rfl) ?_
    refine d1_of_d2 ?_
    refine d2_done (by kernel_rfl) ?_
    refine aend_then ?_
    refine awp_ret ?_
    exact ret_E (.inl rfl) () ((hands_1 rfl (.tmp rfl)).eq (by rfl)) trivial
theorem awake_ok : PureAt Tryz.prog 17 [] (.bool true) := PureAt.of_eff (ds := []) awake_eff
end Go.Proofs.YtplpcamcnppibaaGreatDoor
namespace Go.Proofs.YtplpcamcnppibaaGreatDoor
open Go.RowKit
set_option maxRecDepth 20000
set_option linter.all false
theorem thin_bd {b : Brd} {n : Nat} (h : thinT b n = true) : b.stocks.length ≤ 7 ∧ n ≤ 200 := by
  unfold thinT at h
  simp only [Bool.and_eq_true, decide_eq_true_eq] at h
  omega
end Go.Proofs.YtplpcamcnppibaaGreatDoor
namespace Go.Proofs.YtplpcamcnppibaaGreatDoor
open Go.RowKit
set_option maxRecDepth 20000
set_option linter.all false
def prt0 : Prt := ⟨-1, 0, 0, 0, false, 0, 0, 0⟩
end Go.Proofs.YtplpcamcnppibaaGreatDoor
namespace Go.Proofs.YtplpcamcnppibaaGreatDoor
open Go.RowKit
set_option maxRecDepth 20000
set_option linter.all false
theorem s_appendN {Γ : Cx} {P : Program} {σ : St} {ops : Array Oper} {o : Oper} {W : Nat → Prop} {x y : Operand} {t e : TypeId} {sz bytes id dt : Nat} {fs : List (List D)} (h : o.op = .call { callee := .builtin .append, args := #[x, y], argTypes := #[t, t] })
    (hg : o.guard = none) (hd : o.dst = some dt) (hn : Nat.blt dt Γ.n = true) (hT : ElT P t e sz bytes)
    (hx : σ.ev x = some (true, .d .nil)) (hy : σ.ev y = some (true, .d (.slice sz fs)))
    (hb : (0 + fs.length) * bytes ≤ 140737488355328) (h63 : 0 + fs.length ≤ 9223372036854775807) :
    StepW Γ P ops σ o W fun v' => (σ.put dt true (.val v')).rput id (.row v' e sz fs) := fun a w F hs K Q hK => by
  rw [if_pos (plain_wanted hg a)]
  have hx' : a.eval x = .slice none 0 0 := hs.ev hx
  have hu := hs.ev hy
  have hrow : RowOK F w Γ.own (.slice none 0 0) e sz [] := .inl ⟨rfl, rfl⟩
  obtain ⟨v', w', F', hrun, hrow', hcase⟩ := append_run (ty := o.type) hT hs.fcell (fun b hb => .inl (Nat.le_trans hs.hsize hb)) hrow hu hb h63
  have hex : (execOp a.eval o).run P w = .ok (.value v') w' := by
    simp [execOp, h, resolve, invoke, builtin, hx', hrun]
  unfold Oper.wp
  rw [hex]
  show K (a.put o.dst _) _
  rw [hd]
  have hfin : RS Γ (σ.rput id (.row v' e sz fs)) a w' F' := by
    rcases hcase with ⟨e1, hgr, hnew⟩ | ⟨e1, hgr⟩
    · exact (hs.grow hgr).rput hrow' (fun b hb' => by rw [Res.has, e1] at hb'; simp [Value.ownBlock] at hb')
    · refine (hs.grow hgr).rput hrow' (fun b hb' j r' _ hj e2 => ?_)
      rw [Res.has, e1] at hb'
      cases hb'
      exact Nat.lt_irrefl _ (blk_lt (hs.rs j r' hj) e2)
  have hg2 : ∃ but, Grow F F' w w' but ∧ ∀ b, but = some b → W b := by
    rcases hcase with ⟨_, hgr, _⟩ | ⟨_, hgr⟩
    · exact ⟨_, hgr, fun _ e => by simp [Value.ownBlock] at e⟩
    · exact ⟨_, hgr, fun _ e => by cases e⟩
  obtain ⟨but, hg2, hg3⟩ := hg2
  exact hK v' _ _ F' (hfin.put (blt_lt hn) (fun _ => rfl) (fun h => by cases h)) hg2.ext hg2.size (hg2.agree hg3)
theorem shr_rem {b i : Nat} : ((((b : Int) / 2 ^ ((i : Int)).toNat).tmod 2) == 1) = b.testBit i := by
  have : (b : Int) / 2 ^ ((i : Int)).toNat = ((b / 2 ^ i : Nat) : Int) := by simp
  rw [this, Nat.testBit_eq_decide_div_mod_eq, show (((b / 2 ^ i : Nat) : Int).tmod 2) = ((b / 2 ^ i % 2 : Nat) : Int) from rfl]
  generalize b / 2 ^ i % 2 = x
  rw [Bool.eq_iff_iff, beq_iff_eq, decide_eq_true_eq]
  omega
def refFits (p : Prt) (i : Nat) (x : Int) (o : Nat) : Bool := withinB x 1 799 && (o.testBit i || (p.full && x == p.fig || !p.full && x.tmod 80 == p.fig))
def nearB (a b m : Int) : Bool := decide (a - b ≤ m) && decide (b - a ≤ m)
/-- The last of the first k that is of a stock. -/
def aheadGo (l : List Prt) (st : Int) : Nat → Int
  | 0 => -1
  | k + 1 => bif (l.getD k prt0).stock == st then (k : Nat) else aheadGo l st k
def aheadI (l : List Prt) (i : Nat) : Int := aheadGo l (l.getD i prt0).stock i
def stk0 : Stk := ⟨[], 0, 0⟩
def stepsB (b : Brd) (l : List Prt) (i : Nat) (x : Int) (bf : List Int) : Bool := bif decide (0 ≤ aheadI l i) then nearB x (bf.getD (aheadI l i).toNat 0) b.jump
  else withinB x ((b.stocks.getD (l.getD i prt0).stock.toNat stk0).lo - b.jump) ((b.stocks.getD (l.getD i prt0).stock.toNat stk0).hi + b.jump)
def truStep (b : Brd) (l : List Prt) (xs : List Int) (o i : Nat) : Bool := refFits (l.getD i prt0) i (xs.getD i 0) o && stepsB b l i (xs.getD i 0) xs
def truUp (b : Brd) (l : List Prt) (xs : List Int) (o : Nat) : Nat → Bool
  | 0 => true
  | i + 1 => truUp b l xs o i && truStep b l xs o i
def isTruthB (b : Brd) (l : List Prt) (xs : List Int) (o : Nat) : Bool := decide (xs.length = l.length) && truUp b l xs o l.length
theorem truUp_bad {b : Brd} {l : List Prt} {xs : List Int} {o i : Nat} (h : truUp b l xs o i = false) : ∀ n, i ≤ n → truUp b l xs o n = false
  | 0, hn => by obtain rfl : i = 0 := (by omega); exact h
  | n + 1, hn => by
    by_cases e : i = n + 1
    · exact e ▸ h
    · rw [truUp, truUp_bad h n (by omega)]; rfl
theorem ahead_lt {l : List Prt} {st : Int} : ∀ {i : Nat}, aheadGo l st i < (i : Nat)
  | 0 => by unfold aheadGo; omega
  | i + 1 => by
    have := ahead_lt (l := l) (st := st) (i := i)
    unfold aheadGo
    cases (l.getD i prt0).stock == st
    · simp only [cond_false]; omega
    · simp only [cond_true]; omega
theorem ahead_nat {l : List Prt} {st : Int} {i : Nat} (h : 0 ≤ aheadGo l st i) : ∃ k : Nat, aheadGo l st i = (k : Nat) ∧ k < i := ⟨(aheadGo l st i).toNat, by omega, by have := ahead_lt (l := l) (st := st) (i := i); omega⟩
theorem fits_bd {p : Prt} {i : Nat} {x : Int} {o : Nat} (h : refFits p i x o = true) : 1 ≤ x ∧ x ≤ 799 := by
  unfold refFits at h
  exact within_iff.1 (Bool.and_eq_true_iff.1 h).1
theorem tru_bd {b : Brd} {l : List Prt} {xs : List Int} {o : Nat} : ∀ {n : Nat}, truUp b l xs o n = true → ∀ k y, k < n → xs[k]? = some y → 1 ≤ y ∧ y ≤ 799
  | 0, _, k, y, hk, _ => by omega
  | n + 1, h, k, y, hk, hy => by
    rw [truUp, Bool.and_eq_true_iff] at h
    by_cases e : k = n
    · subst e
      have := (Bool.and_eq_true_iff.1 h.2).1
      rw [getD_of hy] at this
      exact fits_bd this
    · exact tru_bd h.1 k y (by omega) hy
/-- The last price of each stock, of the first i. -/
def lastOf (l : List Prt) (xs : List Int) (i : Nat) (k : Int) : Option Int := bif decide (0 ≤ aheadGo l k i) then some (xs.getD (aheadGo l k i).toNat 0) else none
theorem lastOf_zero (l : List Prt) (xs : List Int) : lastOf l xs 0 = fun _ => none := by funext k; unfold lastOf aheadGo; rfl
theorem lastOf_put {l : List Prt} {xs : List Int} {i : Nat} {p : Prt} {x : Int} (hp : l[i]? = some p) (hx : xs[i]? = some x) : putL (lastOf l xs i) p.stock x = lastOf l xs (i + 1) := by
  funext k
  unfold putL lastOf
  rw [aheadGo, getD_of hp]
  by_cases e : k = p.stock
  · subst e
    simp only [beq_self_eq_true, cond_true, if_true]
    rw [show decide ((0 : Int) ≤ (i : Nat)) = true by simp, cond_true, Int.toNat_natCast, getD_of hx]
  · rw [if_neg e, show (p.stock == k) = false by simp only [beq_eq_false_iff_ne, ne_eq]; exact fun h => e h.symm]
    rfl
theorem withinB_near {x y j : Int} : withinB x (y - j) (y + j) = nearB x y j := by
  unfold withinB nearB
  rw [Bool.eq_iff_iff]
  simp only [Bool.and_eq_true, decide_eq_true_eq]
  omega
theorem stepB_eq {b : Brd} {l : List Prt} {xs : List Int} {i : Nat} {p : Prt} {x : Int} (hp : l[i]? = some p) (hx : xs[i]? = some x) : stepB b p x (lastOf l xs i) = truStep b l xs 0 i := by
  unfold stepB truStep refFits stepsB
  rw [getD_of hp, getD_of hx, Nat.zero_testBit, Bool.false_or]
  have e1 : (bif p.full then x == p.fig else x.tmod 80 == p.fig) = (p.full && x == p.fig || !p.full && x.tmod 80 == p.fig) := by cases p.full <;> simp
  rw [e1]
  congr 1
  unfold lastR lastOf aheadI
  rw [getD_of hp]
  cases decide (0 ≤ aheadGo l p.stock i)
  · rfl
  · exact withinB_near
theorem prove_go {b : Brd} {l : List Prt} {xs : List Int} (hl : xs.length = l.length) : ∀ (n i : Nat), i + n = l.length → truUp b l xs 0 i = true → proveGo b (l.drop i) (xs.drop i) (lastOf l xs i) = truUp b l xs 0 l.length
  | 0, i, h, ht => by
    obtain rfl : i = l.length := by omega
    rw [List.drop_length, ht]; rfl
  | n + 1, i, h, ht => by
    obtain ⟨p, hp⟩ := ex_get (show i < l.length by omega)
    obtain ⟨x, hx⟩ := ex_get (show i < xs.length by omega)
    rw [drop_get hp, drop_get hx, proveGo, lastOf_put hp hx, stepB_eq hp hx]
    cases hs : truStep b l xs 0 i
    · rw [Bool.false_and]
      exact (truUp_bad (i := i + 1) (by rw [truUp, hs, Bool.and_false]) _ (by omega)).symm
    · rw [Bool.true_and]
      exact prove_go hl n (i + 1) (by omega) (by rw [truUp, hs, ht]; rfl)
theorem prove_law {b : Brd} {s : List UInt8} {xs : List Int} : proveI b s xs = ((readI b s).2 == 0 && isTruthB b (readI b s).1 xs 0) := by
  unfold proveI isTruthB
  cases h : (readI b s).2 == 0
  · rw [show ((readI b s).2 != 0) = true by simpa using h]; rfl
  · rw [show ((readI b s).2 != 0) = false by simpa using h, cond_false, Bool.true_and]
    by_cases e : xs.length = (readI b s).1.length
    · rw [show ((xs.length : Int) != ((readI b s).1.length : Int)) = false by simp [e], cond_false, decide_eq_true e, Bool.true_and]
      have := prove_go (b := b) (l := (readI b s).1) (xs := xs) e (readI b s).1.length 0 (by omega) rfl
      rw [lastOf_zero] at this
      exact this
    · rw [show ((xs.length : Int) != ((readI b s).1.length : Int)) = true by simp only [bne_iff_ne, ne_eq]; omega, cond_true, decide_eq_false e, Bool.false_and]
theorem refNear_ok (a b m : Int) (h : 1 ≤ a ∧ a ≤ 799 ∧ 1 ≤ b ∧ b ≤ 799) : PureAt Tryz.prog 113 [.int .i64 a, .int .i64 b, .int .i64 m] (.bool (nearB a b m)) := by
  refine PureAt.of_awp Tryz.func113 rfl (by kernel_rfl) (Nat.le_of_ble_eq_true rfl) fun Γ hn hl => ?_
  refine awp_seq ?_
  refine awp_region ?_
  refine sq rfl rfl hn rfl (q_assign rfl rfl) ?_
  refine run_nil ?_
  refine aend_then ?_
  refine awp_seq ?_
  refine awp_region ?_
  refine sq rfl rfl hn rfl (q_move rfl rfl) ?_
  refine sq rfl rfl hn rfl (q_move rfl rfl) ?_
  refine sq rfl rfl hn rfl (q_sub rfl rfl rfl (r := a - b) (i64w (by omega) rfl)) ?_
  refine sq rfl rfl hn rfl (q_move rfl rfl) ?_
  refine sq rfl rfl hn rfl (q_leq rfl rfl rfl) ?_
  refine sq rfl rfl hn rfl (q_move rfl rfl) ?_
  refine stepG [] (guard_some rfl rfl rfl) rfl (nb hn rfl) (fun hc => trivial) (fun hc => q_move rfl rfl) ?_
  refine stepG [] (guard_some rfl rfl rfl) rfl (nb hn rfl) (fun hc => trivial) (fun hc => q_move rfl rfl) ?_
  refine stepG [(13, _), (14, _)] (guard_some rfl rfl rfl) rfl (nb hn rfl) (fun hc => ⟨⟨_, rfl, hc⟩, ⟨_, rfl, hc⟩, trivial⟩) (fun hc => q_sub rfl rfl rfl (r := b - a) (i64w (by omega) rfl)) ?_
  refine stepG [] (guard_some rfl rfl rfl) rfl (nb hn rfl) (fun hc => trivial) (fun hc => q_move rfl rfl) ?_
  refine stepG [(15, _), (16, _)] (guard_some rfl rfl rfl) rfl (nb hn rfl) (fun hc => ⟨⟨_, rfl, hc⟩, ⟨_, rfl, hc⟩, trivial⟩) (fun hc => q_leq rfl rfl rfl) ?_
  refine sq rfl rfl hn rfl (q_and rfl rfl rfl (by intro hB; first | (rw [hB]; rfl) | (rw [hB, hc]; rfl) | simp_all)) ?_
  refine sq rfl rfl hn rfl (q_assign rfl rfl) ?_
  refine run_nil ?_
  refine aend_then ?_
  refine awp_ret ?_
  exact ret_1 (.inl rfl) hl rfl (.tmp rfl)
theorem Ahead_ok (l : List Prt) (i : Nat) (s : Prt) (hs : l[i]? = some s) (h8 : l.length ≤ 1000) : PureAt Tryz.prog 112 [prtsD l, .int .i64 (i : Nat)] (.int .i64 (aheadI l i)) := by
  refine PureAt.of_awp Tryz.func112 rfl (by kernel_rfl) (Nat.le_of_ble_eq_true rfl) fun Γ hn hl => ?_
  have hil : i < l.length := (List.getElem?_eq_some_iff.1 hs).1
  have ea : aheadI l i = aheadGo l s.stock i := by unfold aheadI; rw [getD_of hs]
  rw [ea]
  refine awp_seq ?_
  refine awp_region ?_
  refine sq rfl rfl hn rfl (q_assign rfl rfl) ?_
  refine run_nil ?_
  refine aend_then ?_
  refine awp_seq ?_
  refine awp_seq ?_
  refine awp_region ?_
  refine sq rfl rfl hn rfl (q_move rfl rfl) ?_
  refine sq rfl rfl hn rfl (q_sub rfl rfl rfl (r := (i : Int) - 1) (i64w (by omega) rfl)) ?_
  refine sq rfl rfl hn rfl (q_assign rfl rfl) ?_
  refine run_nil ?_
  refine aend_then ?_
  refine awp_block ?_
  refine awp_loop_on (ι := {j : Nat // j ≤ i ∧ aheadGo l s.stock j = aheadGo l s.stock i}) (fun y => (5, true, .d (.int .i64 ((y.1 : Nat) - 1 : Int))) :: anys [8, 9, 12, 13, 14, 15, 16, 17, 18, 19, 20, 21, 22, 10, 11]) (fun y => []) (fun y => y.1) ⟨i, Nat.le_refl _, rfl⟩ ⟨.inl rfl, holdT_anys _⟩ trivial ?_
  rintro ⟨j, hj, hgo⟩
  dsimp only
  refine awp_seq ?_
  refine awp_seq ?_
  refine awp_region ?_
  refine sq rfl rfl hn rfl (q_move rfl rfl) ?_
  refine sq rfl rfl hn rfl (q_geq rfl rfl rfl) ?_
  refine run_nil ?_
  refine aend_then ?_
  refine awp_cond rfl (fun hb0 => ?_) (fun hb0 => ?_)
  · skip
    obtain ⟨m, rfl⟩ : ∃ m, j = m + 1 := ⟨j - 1, by simp at hb0; omega⟩
    obtain ⟨p, hp⟩ := ex_get (show m < l.length by omega)
    refine awp_skip ?_
    refine aend_then ?_
    refine awp_seq ?_
    refine awp_block ?_
    refine awp_seq ?_
    refine d_start (W := fun b => True) fmo ?_
    refine d1q (i := 0) rfl (by kernel_rfl) (fun _ _ _ _ h => h) rfl rfl hn rfl (q_move rfl rfl) ?_
    refine d1q (i := 1) rfl (by kernel_rfl) (fun _ _ _ _ h => h) rfl rfl hn rfl (q_move rfl rfl) ?_
    refine d1q (i := 2) rfl (by kernel_rfl) (fun _ _ _ _ h => h) rfl rfl hn rfl (q_index (i := m) rfl rfl rfl Tryz.underlying35 sz43 (by omega) (mget hp)) ?_
    refine d1q (i := 3) rfl (by kernel_rfl) (fun _ _ _ _ h => h) rfl rfl hn rfl (q_fieldAddrp rfl rfl Tryz.underlying43 rfl sz3 rfl) ?_
    refine d1q (i := 4) rfl (by kernel_rfl) (fun _ _ _ _ h => h) rfl rfl hn rfl (q_loadp rfl rfl Tryz.underlying3 rfl seesFA) ?_
    refine d1q (i := 5) rfl (by kernel_rfl) (fun _ _ _ _ h => h) rfl rfl hn rfl (q_move rfl rfl) ?_
    refine d1q (i := 6) rfl (by kernel_rfl) (fun _ _ _ _ h => h) rfl rfl hn rfl (q_move rfl rfl) ?_
    refine d1q (i := 7) rfl (by kernel_rfl) (fun _ _ _ _ h => h) rfl rfl hn rfl (q_index (i := i) rfl rfl rfl Tryz.underlying35 sz43 rfl (mget hs)) ?_
    refine d1q (i := 8) rfl (by kernel_rfl) (fun _ _ _ _ h => h) rfl rfl hn rfl (q_fieldAddrp rfl rfl Tryz.underlying43 rfl sz3 rfl) ?_
    refine d1q (i := 9) rfl (by kernel_rfl) (fun _ _ _ _ h => h) rfl rfl hn rfl (q_loadp rfl rfl Tryz.underlying3 rfl seesFA) ?_
    refine d1q (i := 10) rfl (by kernel_rfl) (fun _ _ _ _ h => h) rfl rfl hn rfl (q_eql rfl rfl rfl) ?_
    refine d1_of_d2 ?_
    refine d2_done (by kernel_rfl) ?_
    refine aend_then ?_
    refine awp_cond rfl (fun hb1 => ?_) (fun hb1 => ?_)
    · skip
      have heq : (p.stock == s.stock) = true := hb1
      have e1 : aheadGo l s.stock i = ((m + 1 : Nat) : Int) - 1 := by rw [← hgo, aheadGo, getD_of hp, heq, cond_true]; omega
      rw [e1]
      refine awp_seq ?_
      refine awp_region ?_
      refine sq rfl rfl hn rfl (q_move rfl rfl) ?_
      refine sq rfl rfl hn rfl (q_assign rfl rfl) ?_
      refine run_nil ?_
      refine aend_then ?_
      refine awp_ret ?_
      refine aend_block_ret ?_
      refine aend_then_ret ?_
      refine aend_then_ret ?_
      refine aend_block_ret ?_
      refine aend_then_ret ?_
      exact ret_1 (.inl rfl) hl rfl (.tmp rfl)
    · skip
      have hne : (p.stock == s.stock) = false := hb1
      refine awp_skip ?_
      refine aend_block ?_
      refine aend_then ?_
      refine awp_region ?_
      refine sq rfl rfl hn rfl (q_move rfl rfl) ?_
      refine sq rfl rfl hn rfl (q_sub rfl rfl rfl (r := ((m : Nat) : Int) - 1) (i64w (by omega) (by omega))) ?_
      refine sq rfl rfl hn rfl (q_assign rfl rfl) ?_
      refine run_nil ?_
      exact aend_round_on ⟨m, by omega, by rw [← hgo, aheadGo, getD_of hp, hne]; rfl⟩ ⟨.inl rfl, holdT_anys _⟩ trivial (by simp only; omega) (by repeat (first | exact kr _ | refine kc rfl ?_)) (by repeat (first | exact kr _ | refine kc rfl ?_))
  · skip
    obtain rfl : j = 0 := by simp at hb0; omega
    have e1 : aheadGo l s.stock i = -1 := by rw [← hgo]; rfl
    rw [e1]
    refine awp_exit ?_
    refine aend_then_exit ?_
    refine aend_then_exit ?_
    refine aend_block_exit ?_
    refine aend_then ?_
    refine awp_seq ?_
    refine awp_region ?_
    refine sq rfl rfl hn rfl (q_assign rfl rfl) ?_
    refine run_nil ?_
    refine aend_then ?_
    refine awp_ret ?_
    exact ret_1 (.inl rfl) hl rfl (.tmp rfl)
theorem Fits_ok (p : Prt) (i : Nat) (x : Int) (o : Nat) (hi : i < 64) (ho : o < 9223372036854775808) : PureAt Tryz.prog 77 [.agg (prtE p), .int .i64 (i : Nat), .int .i64 x, .int .i64 (o : Nat)] (.bool (refFits p i x o)) := by
  refine PureAt.of_awp Tryz.func77 rfl (by kernel_rfl) (Nat.le_of_ble_eq_true rfl) fun Γ hn hl => ?_
  refine awp_seq ?_
  refine awp_region ?_
  refine stepW (s_box 4 rfl rfl rfl (nb hn rfl) rfl rfl) fun b4 => ?_
  refine sq rfl rfl hn rfl (q_assign rfl rfl) ?_
  refine run_nil ?_
  refine aend_then ?_
  refine awp_seq ?_
  refine awp_seq ?_
  refine awp_region ?_
  refine sq rfl rfl hn rfl (q_move rfl rfl) ?_
  refine stepW (s_call [] (fun _ => In_ok _ _ _) rfl (guard_none rfl) rfl (nb hn rfl) (fun _ => trivial) rfl rfl (.refl _)) fun _ => ?_
  refine sq rfl rfl hn rfl (q_not rfl rfl) ?_
  refine run_nil ?_
  refine aend_then ?_
  refine awp_cond rfl (fun hb0 => ?_) (fun hb0 => ?_)
  · skip
    have q0 : withinB x 1 799 = false := by simpa using hb0
    have e1 : refFits p i x o = false := by unfold refFits; rw [q0]; rfl
    rw [e1]
    refine awp_seq ?_
    refine awp_region ?_
    refine sq rfl rfl hn rfl (q_assign rfl rfl) ?_
    refine run_nil ?_
    refine aend_then ?_
    refine awp_ret ?_
    refine aend_then_ret ?_
    exact ret_1 (.inl rfl) hl rfl (.tmp rfl)
  · skip
    have q0 : withinB x 1 799 = true := by simpa using hb0
    refine awp_skip ?_
    refine aend_then ?_
    refine awp_seq ?_
    refine awp_seq ?_
    refine awp_region ?_
    refine sq rfl rfl hn rfl (q_move rfl rfl) ?_
    refine sq rfl rfl hn rfl (q_move rfl rfl) ?_
    refine sq rfl rfl hn rfl (q_conv rfl rfl Tryz.underlying3 Tryz.underlying100 (u64w (by omega) rfl)) ?_
    refine sq rfl rfl hn rfl (q_shr rfl rfl rfl (by omega) (by simp [IntKind.bits]; omega)) ?_
    refine sq rfl rfl hn rfl (q_rem rfl rfl rfl (by omega) rfl) ?_
    refine sq rfl rfl hn rfl (q_eql rfl rfl rfl) ?_
    refine run_nil ?_
    refine aend_then ?_
    rw [shr_rem]
    refine awp_cond rfl (fun hb1 => ?_) (fun hb1 => ?_)
    · skip
      have q1 : o.testBit i = true := hb1
      have e1 : refFits p i x o = true := by unfold refFits; rw [q0, q1]; rfl
      rw [e1]
      refine awp_seq ?_
      refine awp_region ?_
      refine sq rfl rfl hn rfl (q_assign rfl rfl) ?_
      refine run_nil ?_
      refine aend_then ?_
      refine awp_ret ?_
      refine aend_then_ret ?_
      exact ret_1 (.inl rfl) hl rfl (.tmp rfl)
    · skip
      have q1 : o.testBit i = false := hb1
      have e1 : refFits p i x o = (p.full && x == p.fig || !p.full && x.tmod 80 == p.fig) := by unfold refFits; rw [q0, q1]; rfl
      rw [e1]
      refine awp_skip ?_
      refine aend_then ?_
      refine awp_seq ?_
      refine awp_region ?_
      refine sq rfl rfl hn rfl (q_fieldAddr rfl rfl Tryz.underlying43 rfl sz4) ?_
      refine sq rfl rfl hn rfl (q_load rfl rfl (id := 4) rfl Tryz.underlying4 rfl rfl sees0) ?_
      refine sq rfl rfl hn rfl (q_move rfl rfl) ?_
      refine stepG [] (guard_some rfl rfl rfl) rfl (nb hn rfl) (fun hc => trivial) (fun hc => q_move rfl rfl) ?_
      refine stepG [] (guard_some rfl rfl rfl) rfl (nb hn rfl) (fun hc => trivial) (fun hc => q_fieldAddr rfl rfl Tryz.underlying43 rfl sz3) ?_
      refine stepG [(22, _)] (guard_some rfl rfl rfl) rfl (nb hn rfl) (fun hc => ⟨⟨_, rfl, hc⟩, trivial⟩) (fun hc => q_load rfl rfl (id := 4) rfl Tryz.underlying3 rfl rfl sees0) ?_
      refine stepG [(21, _), (23, _)] (guard_some rfl rfl rfl) rfl (nb hn rfl) (fun hc => ⟨⟨_, rfl, hc⟩, ⟨_, rfl, hc⟩, trivial⟩) (fun hc => q_eql rfl rfl rfl) ?_
      refine sq rfl rfl hn rfl (q_and rfl rfl rfl (by intro hB; first | (rw [hB]; rfl) | (rw [hB, hc]; rfl) | simp_all)) ?_
      refine sq rfl rfl hn rfl (q_move rfl rfl) ?_
      refine stepG [] (guard_some rfl rfl rfl) rfl (nb hn rfl) (fun hc => trivial) (fun hc => q_fieldAddr rfl rfl Tryz.underlying43 rfl sz4) ?_
      refine stepG [(27, _)] (guard_some rfl rfl rfl) rfl (nb hn rfl) (fun hc => ⟨⟨_, rfl, hc⟩, trivial⟩) (fun hc => q_load rfl rfl (id := 4) rfl Tryz.underlying4 rfl rfl sees0) ?_
      refine stepG [(28, _)] (guard_some rfl rfl rfl) rfl (nb hn rfl) (fun hc => ⟨⟨_, rfl, hc⟩, trivial⟩) (fun hc => q_not rfl rfl) ?_
      refine stepG [(29, _)] (guard_some rfl rfl rfl) rfl (nb hn rfl) (fun hc => ⟨⟨_, rfl, hc⟩, trivial⟩) (fun hc => q_move rfl rfl) ?_
      refine stepG [] (guard_some rfl rfl rfl) rfl (nb hn rfl) (fun hc => trivial) (fun hc => q_move rfl rfl) ?_
      refine stepG [(31, _)] (guard_some rfl rfl rfl) rfl (nb hn rfl) (fun hc => ⟨⟨_, rfl, hc⟩, trivial⟩) (fun hc => q_rem rfl rfl rfl (by omega) rfl) ?_
      refine stepG [] (guard_some rfl rfl rfl) rfl (nb hn rfl) (fun hc => trivial) (fun hc => q_fieldAddr rfl rfl Tryz.underlying43 rfl sz3) ?_
      refine stepG [(33, _)] (guard_some rfl rfl rfl) rfl (nb hn rfl) (fun hc => ⟨⟨_, rfl, hc⟩, trivial⟩) (fun hc => q_load rfl rfl (id := 4) rfl Tryz.underlying3 rfl rfl sees0) ?_
      refine stepG [(32, _), (34, _)] (guard_some rfl rfl rfl) rfl (nb hn rfl) (fun hc => ⟨⟨_, rfl, hc⟩, ⟨_, rfl, hc⟩, trivial⟩) (fun hc => q_eql rfl rfl rfl) ?_
      refine stepG [(30, _)] (guard_some rfl rfl rfl) rfl (nb hn rfl) (fun hc => ⟨⟨_, rfl, hc⟩, trivial⟩) (fun hc => q_and rfl rfl rfl (by intro hB; first | (rw [hB]; rfl) | (rw [hB, hc]; rfl) | simp_all)) ?_
      refine sq rfl rfl hn rfl (q_or rfl rfl rfl (by intro hB; first | (rw [hB]; rfl) | (rw [hB, hc]; rfl) | simp_all)) ?_
      refine sq rfl rfl hn rfl (q_assign rfl rfl) ?_
      refine run_nil ?_
      refine aend_then ?_
      refine awp_ret ?_
      exact ret_1 (.inl rfl) hl rfl (.tmp rfl)
theorem Steps_ok (b : Brd) (l : List Prt) (i : Nat) (x : Int) (bf : List Int) (v : BrdOK b) (hpo : ∀ p ∈ l, PrtOK b p) (h8 : l.length ≤ 1000) (hil : i < l.length) (hbl : i ≤ bf.length) (hx : 1 ≤ x ∧ x ≤ 799) (hbf : ∀ k y, k < i → bf[k]? = some y → 1 ≤ y ∧ y ≤ 799) : PureAt Tryz.prog 79 [brdD b, prtsD l, .int .i64 (i : Nat), .int .i64 x, ints bf] (.bool (stepsB b l i x bf)) := by
  refine PureAt.of_awp Tryz.func79 rfl (by kernel_rfl) (Nat.le_of_ble_eq_true rfl) fun Γ hn hl => ?_
  obtain ⟨s, hs⟩ := ex_get hil
  have hst := (hpo s (List.mem_of_getElem? hs)).st
  have hj := v.j0
  have hj4 := v.j4
  have hn4 := v.n4
  obtain ⟨st, hst2⟩ := ex_get (show s.stock.toNat < b.stocks.length by omega)
  have hso := stk_ok v (List.mem_of_getElem? hst2)
  refine awp_seq ?_
  refine awp_region ?_
  refine stepW (s_box 5 rfl rfl rfl (nb hn rfl) rfl rfl) fun b5 => ?_
  refine sq rfl rfl hn rfl (q_assign rfl rfl) ?_
  refine run_nil ?_
  refine aend_then ?_
  refine awp_seq ?_
  refine awp_region ?_
  refine sq rfl rfl hn rfl (q_move rfl rfl) ?_
  refine sq rfl rfl hn rfl (q_move rfl rfl) ?_
  refine stepW (s_call [] (fun _ => Ahead_ok l i s hs h8) rfl (guard_none rfl) rfl (nb hn rfl) (fun _ => trivial) rfl rfl (.refl _)) fun _ => ?_
  refine sq rfl rfl hn rfl (q_assign rfl rfl) ?_
  refine run_nil ?_
  refine aend_then ?_
  refine awp_seq ?_
  refine awp_seq ?_
  refine awp_region ?_
  refine sq rfl rfl hn rfl (q_move rfl rfl) ?_
  refine sq rfl rfl hn rfl (q_geq rfl rfl rfl) ?_
  refine run_nil ?_
  refine aend_then ?_
  refine awp_cond rfl (fun hb0 => ?_) (fun hb0 => ?_)
  · skip
    have q0 : decide (0 ≤ aheadI l i) = true := hb0
    obtain ⟨k, hk, hki⟩ := ahead_nat (of_decide_eq_true q0)
    obtain ⟨y, hy⟩ := ex_get (show k < bf.length by omega)
    have hyb := hbf k y hki hy
    have e1 : stepsB b l i x bf = nearB x y b.jump := by unfold stepsB; rw [q0, cond_true, show aheadI l i = (k : Nat) from hk, Int.toNat_natCast, getD_of hy]
    rw [e1]
    refine awp_seq ?_
    refine d_start (W := fun b => b ≠ b5) fmo ?_
    refine d1q (i := 0) rfl (by kernel_rfl) (fun _ _ _ _ h => h) rfl rfl hn rfl (q_move rfl rfl) ?_
    refine d1q (i := 1) rfl (by kernel_rfl) (fun _ _ _ _ h => h) rfl rfl hn rfl (q_move rfl rfl) ?_
    refine d1q (i := 2) rfl (by kernel_rfl) (fun _ _ _ _ h => h) rfl rfl hn rfl (q_move rfl rfl) ?_
    refine d1q (i := 3) rfl (by kernel_rfl) (fun _ _ _ _ h => h) rfl rfl hn rfl (q_index (i := k) rfl rfl rfl Tryz.underlying57 sz3 hk (mget hy)) ?_
    refine d1q (i := 4) rfl (by kernel_rfl) (fun _ _ _ _ h => h) rfl rfl hn rfl (q_loadp rfl rfl Tryz.underlying3 rfl seesFA) ?_
    refine d1q (i := 5) rfl (by kernel_rfl) (fun _ _ _ _ h => h) rfl rfl hn rfl (q_fieldAddr rfl rfl Tryz.underlying24 rfl sz3) ?_
    refine d1q (i := 6) rfl (by kernel_rfl) (fun _ _ _ _ h => h) rfl rfl hn rfl (q_load rfl rfl (id := 5) rfl Tryz.underlying3 rfl rfl (seesA (by simp))) ?_
    refine d1_of_d2 ?_
    refine d2_one (i := 7) (by kernel_rfl) rfl (s_call [] (fun _ => refNear_ok x y b.jump ⟨hx.1, hx.2, hyb.1, hyb.2⟩) rfl (guard_none rfl) rfl (nb hn rfl) (fun _ => trivial) rfl rfl (.refl _)) fun _ => ?_
    refine d2_of_d1 ?_
    refine d1q (i := 8) rfl (by kernel_rfl) (fun _ _ _ _ h => h) rfl rfl hn rfl (q_assign rfl rfl) ?_
    refine d1_of_d2 ?_
    refine d2_done (by kernel_rfl) ?_
    refine aend_then ?_
    refine awp_ret ?_
    refine aend_then_ret ?_
    exact ret_1 (.inl rfl) hl rfl (.tmp rfl)
  · skip
    have q0 : decide (0 ≤ aheadI l i) = false := hb0
    have e1 : stepsB b l i x bf = withinB x (st.lo - b.jump) (st.hi + b.jump) := by unfold stepsB; rw [q0, cond_false, getD_of hs, getD_of hst2]
    rw [e1]
    refine awp_skip ?_
    refine aend_then ?_
    refine awp_seq ?_
    refine d_start (W := fun b => b ≠ b5) fmo ?_
    refine d1q (i := 0) rfl (by kernel_rfl) (fun _ _ _ _ h => h) rfl rfl hn rfl (q_fieldAddr rfl rfl Tryz.underlying24 rfl sz22) ?_
    refine d1q (i := 1) rfl (by kernel_rfl) (fun _ _ _ _ h => h) rfl rfl hn rfl (q_load rfl rfl (id := 5) rfl Tryz.underlying22 rfl rfl (seesA (by simp))) ?_
    refine d1q (i := 2) rfl (by kernel_rfl) (fun _ _ _ _ h => h) rfl rfl hn rfl (q_move rfl rfl) ?_
    refine d1q (i := 3) rfl (by kernel_rfl) (fun _ _ _ _ h => h) rfl rfl hn rfl (q_move rfl rfl) ?_
    refine d1q (i := 4) rfl (by kernel_rfl) (fun _ _ _ _ h => h) rfl rfl hn rfl (q_index (i := i) rfl rfl rfl Tryz.underlying35 sz43 rfl (mget hs)) ?_
    refine d1q (i := 5) rfl (by kernel_rfl) (fun _ _ _ _ h => h) rfl rfl hn rfl (q_fieldAddrp rfl rfl Tryz.underlying43 rfl sz3 rfl) ?_
    refine d1q (i := 6) rfl (by kernel_rfl) (fun _ _ _ _ h => h) rfl rfl hn rfl (q_loadp rfl rfl Tryz.underlying3 rfl seesFA) ?_
    refine d1q (i := 7) rfl (by kernel_rfl) (fun _ _ _ _ h => h) rfl rfl hn rfl (q_index (i := s.stock.toNat) rfl rfl rfl Tryz.underlying22 sz98 (by omega) (mget hst2)) ?_
    refine d1q (i := 8) rfl (by kernel_rfl) (fun _ _ _ _ h => h) rfl rfl hn rfl (q_fieldAddrp rfl rfl Tryz.underlying98 rfl sz41 rfl) ?_
    refine d1q (i := 9) rfl (by kernel_rfl) (fun _ _ _ _ h => h) rfl rfl hn rfl (q_loadpA rfl rfl Tryz.underlying41 rfl sz41 rfl rfl seesFA) ?_
    refine d1_of_d2 ?_
    refine d2_one (i := 10) (by kernel_rfl) rfl (s_alloc 12 rfl rfl rfl (nb hn rfl) zr41 rfl rfl) fun b12 => ?_
    refine d2_of_d1 ?_
    refine d1_of_d2 ?_
    refine g_ne_d2 (i := 12) (j := 5) rfl rfl rfl (fun hne12_5 => ?_)
    refine d2_one (i := 11) (by kernel_rfl) rfl (s_store rfl rfl rfl rfl rfl rfl (id := 12) rfl sz41 rfl (Nat.le_of_ble_eq_true rfl) rfl (fun e => hne12_5 _ rfl (congrArg some e.symm))) fun _ => ?_
    refine d2_of_d1 ?_
    refine d1_of_d2 ?_
    refine d2_done (by kernel_rfl) ?_
    refine aend_then ?_
    refine awp_seq ?_
    refine awp_region ?_
    refine sq rfl rfl hn rfl (q_move rfl rfl) ?_
    refine sq rfl rfl hn rfl (q_fieldAddr rfl rfl Tryz.underlying41 rfl sz3) ?_
    refine sq rfl rfl hn rfl (q_load rfl rfl (id := 12) rfl Tryz.underlying3 rfl rfl sees0) ?_
    refine sq rfl rfl hn rfl (q_fieldAddr rfl rfl Tryz.underlying24 rfl sz3) ?_
    refine sq rfl rfl hn rfl (q_load rfl rfl (id := 5) rfl Tryz.underlying3 rfl rfl sees0) ?_
    refine sq rfl rfl hn rfl (q_sub rfl rfl rfl (r := st.lo - b.jump) (i64w (by omega) rfl)) ?_
    refine sq rfl rfl hn rfl (q_fieldAddr rfl rfl Tryz.underlying41 rfl sz3) ?_
    refine sq rfl rfl hn rfl (q_load rfl rfl (id := 12) rfl Tryz.underlying3 rfl rfl sees0) ?_
    refine sq rfl rfl hn rfl (q_fieldAddr rfl rfl Tryz.underlying24 rfl sz3) ?_
    refine sq rfl rfl hn rfl (q_load rfl rfl (id := 5) rfl Tryz.underlying3 rfl rfl sees0) ?_
    refine sq rfl rfl hn rfl (q_add rfl rfl rfl (r := st.hi + b.jump) (i64w (by omega) rfl)) ?_
    refine stepW (s_call [] (fun _ => In_ok _ _ _) rfl (guard_none rfl) rfl (nb hn rfl) (fun _ => trivial) rfl rfl (.refl _)) fun _ => ?_
    refine sq rfl rfl hn rfl (q_assign rfl rfl) ?_
    refine run_nil ?_
    refine aend_then ?_
    refine awp_ret ?_
    exact ret_1 (.inl rfl) hl rfl (.tmp rfl)
theorem IsTruth_ok (b : Brd) (l : List Prt) (xs : List Int) (o : Nat) (v : BrdOK b) (hpo : ∀ p ∈ l, PrtOK b p) (h8 : l.length ≤ 60) (ho : o < 9223372036854775808) : PureAt Tryz.prog 43 [brdD b, prtsD l, ints xs, .int .i64 (o : Nat)] (.bool (isTruthB b l xs o)) := by
  refine PureAt.of_awp Tryz.func43 rfl (by kernel_rfl) (Nat.le_of_ble_eq_true rfl) fun Γ hn hl => ?_
  refine awp_seq ?_
  refine awp_region ?_
  refine stepW (s_box 4 rfl rfl rfl (nb hn rfl) rfl rfl) fun b4 => ?_
  refine sq rfl rfl hn rfl (q_assign rfl rfl) ?_
  refine run_nil ?_
  refine aend_then ?_
  refine awp_seq ?_
  refine awp_seq ?_
  refine awp_region ?_
  refine sq rfl rfl hn rfl (q_move rfl rfl) ?_
  refine sq rfl rfl hn rfl (q_len rfl rfl Tryz.underlying57) ?_
  refine sq rfl rfl hn rfl (q_move rfl rfl) ?_
  refine sq rfl rfl hn rfl (q_len rfl rfl Tryz.underlying35) ?_
  refine sq rfl rfl hn rfl (q_neq rfl rfl rfl) ?_
  refine run_nil ?_
  refine aend_then ?_
  refine awp_cond rfl (fun hb0 => ?_) (fun hb0 => ?_)
  · skip
    have q0 : xs.length ≠ l.length := by simp at hb0; omega
    have e1 : isTruthB b l xs o = false := by unfold isTruthB; rw [decide_eq_false q0]; rfl
    rw [e1]
    refine awp_seq ?_
    refine awp_region ?_
    refine sq rfl rfl hn rfl (q_assign rfl rfl) ?_
    refine run_nil ?_
    refine aend_then ?_
    refine awp_ret ?_
    refine aend_then_ret ?_
    exact ret_1 (.inl rfl) hl rfl (.tmp rfl)
  · skip
    have q0 : xs.length = l.length := by simp at hb0; omega
    have e0 : isTruthB b l xs o = truUp b l xs o l.length := by unfold isTruthB; rw [decide_eq_true q0]; rfl
    rw [e0]
    refine awp_skip ?_
    refine aend_then ?_
    refine awp_seq ?_
    refine awp_seq ?_
    refine awp_region ?_
    refine sq rfl rfl hn rfl (q_assign rfl rfl) ?_
    refine run_nil ?_
    refine aend_then ?_
    refine awp_block ?_
    refine awp_loop_on (ι := {i : Nat // i ≤ l.length ∧ truUp b l xs o i = true}) (fun x => (9, true, .d (.int .i64 (x.1 : Nat))) :: anys [15, 16, 17, 18, 21, 22, 23, 24, 25, 26, 27, 28, 29, 30, 31, 32, 33, 34, 35, 36, 37, 38, 39, 40, 41, 42, 43, 44, 19, 20]) (fun x => []) (fun x => l.length - x.1) ⟨0, Nat.zero_le _, rfl⟩ ⟨.inl rfl, holdT_anys _⟩ trivial ?_
    rintro ⟨i, hi, ht⟩
    dsimp only
    refine awp_seq ?_
    refine awp_seq ?_
    refine awp_region ?_
    refine sq rfl rfl hn rfl (q_move rfl rfl) ?_
    refine sq rfl rfl hn rfl (q_move rfl rfl) ?_
    refine sq rfl rfl hn rfl (q_len rfl rfl Tryz.underlying35) ?_
    refine sq rfl rfl hn rfl (q_lss rfl rfl rfl) ?_
    refine run_nil ?_
    refine aend_then ?_
    refine awp_cond rfl (fun hb1 => ?_) (fun hb1 => ?_)
    · skip
      have hil : i < l.length := by simp at hb1; omega
      obtain ⟨p, hp⟩ := ex_get hil
      obtain ⟨x, hx⟩ := ex_get (show i < xs.length by omega)
      have es : truStep b l xs o i = (refFits p i x o && stepsB b l i x xs) := by unfold truStep; rw [getD_of hp, getD_of hx]
      refine awp_skip ?_
      refine aend_then ?_
      refine awp_seq ?_
      refine awp_block ?_
      refine awp_seq ?_
      refine d_start (W := fun b => b ≠ b4) fmo ?_
      refine d1q (i := 0) rfl (by kernel_rfl) (fun _ _ _ _ h => h) rfl rfl hn rfl (q_move rfl rfl) ?_
      refine d1q (i := 1) rfl (by kernel_rfl) (fun _ _ _ _ h => h) rfl rfl hn rfl (q_move rfl rfl) ?_
      refine d1q (i := 2) rfl (by kernel_rfl) (fun _ _ _ _ h => h) rfl rfl hn rfl (q_index (i := i) rfl rfl rfl Tryz.underlying35 sz43 rfl (mget hp)) ?_
      refine d1q (i := 3) rfl (by kernel_rfl) (fun _ _ _ _ h => h) rfl rfl hn rfl (q_loadpA rfl rfl Tryz.underlying43 rfl sz43 rfl rfl seesFA) ?_
      refine d1q (i := 4) rfl (by kernel_rfl) (fun _ _ _ _ h => h) rfl rfl hn rfl (q_move rfl rfl) ?_
      refine d1q (i := 5) rfl (by kernel_rfl) (fun _ _ _ _ h => h) rfl rfl hn rfl (q_move rfl rfl) ?_
      refine d1q (i := 6) rfl (by kernel_rfl) (fun _ _ _ _ h => h) rfl rfl hn rfl (q_move rfl rfl) ?_
      refine d1q (i := 7) rfl (by kernel_rfl) (fun _ _ _ _ h => h) rfl rfl hn rfl (q_index (i := i) rfl rfl rfl Tryz.underlying57 sz3 rfl (mget hx)) ?_
      refine d1q (i := 8) rfl (by kernel_rfl) (fun _ _ _ _ h => h) rfl rfl hn rfl (q_loadp rfl rfl Tryz.underlying3 rfl seesFA) ?_
      refine d1q (i := 9) rfl (by kernel_rfl) (fun _ _ _ _ h => h) rfl rfl hn rfl (q_move rfl rfl) ?_
      refine d1_of_d2 ?_
      refine d2_one (i := 10) (by kernel_rfl) rfl (s_call [] (fun _ => Fits_ok p i x o (by omega) ho) rfl (guard_none rfl) rfl (nb hn rfl) (fun _ => trivial) rfl rfl (.refl _)) fun _ => ?_
      refine d2_of_d1 ?_
      refine d1q (i := 11) rfl (by kernel_rfl) (fun _ _ _ _ h => h) rfl rfl hn rfl (q_not rfl rfl) ?_
      refine d1q (i := 12) rfl (by kernel_rfl) (fun _ _ _ _ h => h) rfl rfl hn rfl (q_move rfl rfl) ?_
      refine d1g (i := 13) [] rfl (by kernel_rfl) (fun _ _ _ _ h => h) (guard_some rfl rfl rfl) rfl hn rfl (fun hc => trivial) (fun hc => q_loadAd rfl rfl (id := 4) rfl Tryz.underlying24 rfl sz24 rfl rfl (seesA (by simp))) ?_
      refine d1g (i := 14) [] rfl (by kernel_rfl) (fun _ _ _ _ h => h) (guard_some rfl rfl rfl) rfl hn rfl (fun hc => trivial) (fun hc => q_move rfl rfl) ?_
      refine d1g (i := 15) [] rfl (by kernel_rfl) (fun _ _ _ _ h => h) (guard_some rfl rfl rfl) rfl hn rfl (fun hc => trivial) (fun hc => q_move rfl rfl) ?_
      refine d1g (i := 16) [] rfl (by kernel_rfl) (fun _ _ _ _ h => h) (guard_some rfl rfl rfl) rfl hn rfl (fun hc => trivial) (fun hc => q_move rfl rfl) ?_
      refine d1g (i := 17) [] rfl (by kernel_rfl) (fun _ _ _ _ h => h) (guard_some rfl rfl rfl) rfl hn rfl (fun hc => trivial) (fun hc => q_move rfl rfl) ?_
      refine d1g (i := 18) [(37, _), (38, _)] rfl (by kernel_rfl) (fun _ _ _ _ h => h) (guard_some rfl rfl rfl) rfl hn rfl (fun hc => ⟨⟨_, rfl, hc⟩, ⟨_, rfl, hc⟩, trivial⟩) (fun hc => q_index (i := i) rfl rfl rfl Tryz.underlying57 sz3 rfl (mget hx)) ?_
      refine d1g (i := 19) [(39, _)] rfl (by kernel_rfl) (fun _ _ _ _ h => h) (guard_some rfl rfl rfl) rfl hn rfl (fun hc => ⟨⟨_, rfl, hc⟩, trivial⟩) (fun hc => q_loadp rfl rfl Tryz.underlying3 rfl seesFA) ?_
      refine d1g (i := 20) [] rfl (by kernel_rfl) (fun _ _ _ _ h => h) (guard_some rfl rfl rfl) rfl hn rfl (fun hc => trivial) (fun hc => q_move rfl rfl) ?_
      refine d1_of_d2 ?_
      refine d2_one (i := 21) (by kernel_rfl) rfl (s_call [(34, _), (35, _), (36, _), (40, _), (41, _)] (fun hc => Steps_ok b l i x xs v hpo (by omega) hil (by omega) (fits_bd (p := p) (i := i) (o := o) (by simpa using hc)) (tru_bd ht)) rfl (guard_some rfl rfl rfl) rfl (nb hn rfl) (fun hc => ⟨⟨_, rfl, hc⟩, ⟨_, rfl, hc⟩, ⟨_, rfl, hc⟩, ⟨_, rfl, hc⟩, ⟨_, rfl, hc⟩, trivial⟩) rfl rfl (.refl _)) fun _ => ?_
      refine d2_of_d1 ?_
      refine d1g (i := 22) [(42, _)] rfl (by kernel_rfl) (fun _ _ _ _ h => h) (guard_some rfl rfl rfl) rfl hn rfl (fun hc => ⟨⟨_, rfl, hc⟩, trivial⟩) (fun hc => q_not rfl rfl) ?_
      refine d1q (i := 23) rfl (by kernel_rfl) (fun _ _ _ _ h => h) rfl rfl hn rfl (q_or rfl rfl rfl (by intro hB; first | (rw [hB]; rfl) | (rw [hB, hc]; rfl) | simp_all)) ?_
      refine d1_of_d2 ?_
      refine d2_done (by kernel_rfl) ?_
      refine aend_then ?_
      refine awp_cond rfl (fun hb2 => ?_) (fun hb2 => ?_)
      · skip
        have hs : truStep b l xs o i = false := by rw [es]; have h := hb2; revert h; cases refFits p i x o <;> cases stepsB b l i x xs <;> simp
        have e1 : truUp b l xs o l.length = false := truUp_bad (i := i + 1) (by rw [truUp, hs, Bool.and_false]) _ (by omega)
        rw [e1]
        refine awp_seq ?_
        refine awp_region ?_
        refine sq rfl rfl hn rfl (q_assign rfl rfl) ?_
        refine run_nil ?_
        refine aend_then ?_
        refine awp_ret ?_
        refine aend_block_ret ?_
        refine aend_then_ret ?_
        refine aend_then_ret ?_
        refine aend_block_ret ?_
        refine aend_then_ret ?_
        exact ret_1 (.inl rfl) hl rfl (.tmp rfl)
      · skip
        have hs : truStep b l xs o i = true := by rw [es]; have h := hb2; revert h; cases refFits p i x o <;> cases stepsB b l i x xs <;> simp
        refine awp_skip ?_
        refine aend_block ?_
        refine aend_then ?_
        refine awp_region ?_
        refine sq rfl rfl hn rfl (q_move rfl rfl) ?_
        refine sq rfl rfl hn rfl (q_add rfl rfl rfl (r := ((i + 1 : Nat) : Int)) (i64w (by omega) (by omega))) ?_
        refine sq rfl rfl hn rfl (q_assign rfl rfl) ?_
        refine run_nil ?_
        exact aend_round_on ⟨i + 1, by omega, by rw [truUp, ht, hs]; rfl⟩ ⟨.inl rfl, holdT_anys _⟩ trivial (by simp only; omega) (by repeat (first | exact kr _ | refine kc rfl ?_)) (by repeat (first | exact kr _ | refine kc rfl ?_))
    · skip
      obtain rfl : i = l.length := by simp at hb1; omega
      rw [ht]
      refine awp_exit ?_
      refine aend_then_exit ?_
      refine aend_then_exit ?_
      refine aend_block_exit ?_
      refine aend_then ?_
      refine awp_seq ?_
      refine awp_region ?_
      refine sq rfl rfl hn rfl (q_assign rfl rfl) ?_
      refine run_nil ?_
      refine aend_then ?_
      refine awp_ret ?_
      exact ret_1 (.inl rfl) hl rfl (.tmp rfl)
theorem list_ok (l : List Int) (h5 : l.length ≤ 1000000) : PureAt Tryz.prog 42 [ints l] (ints l) := by
  refine PureAt.of_awp Tryz.func42 rfl (by kernel_rfl) (Nat.le_of_ble_eq_true rfl) fun Γ hn hl => ?_
  refine awp_seq ?_
  refine awp_region ?_
  refine sq rfl rfl hn rfl (q_assign rfl rfl) ?_
  refine run_nil ?_
  refine aend_then ?_
  refine awp_seq ?_
  refine awp_region ?_
  refine sq rfl rfl hn rfl (q_move rfl rfl) ?_
  refine stepW (s_appendN (id := 4) rfl rfl rfl (nb hn rfl) elt57 rfl rfl (by simp [chunk]; omega) (by simp [chunk]; omega)) fun v4 => ?_
  refine sq rfl rfl hn rfl (q_assign rfl rfl) ?_
  refine run_nil ?_
  refine aend_then ?_
  refine awp_ret ?_
  refine gh_end (g_row (t := 2) (id := 4) rfl rfl) ?_
  refine ret_eq (ret_1 (.inl rfl) hl rfl (.tmp rfl)) ?_
  rfl
theorem TapeProves_ok (b : Brd) (s : List UInt8) (xs : List Int) (hN : NamesOK b) : PureAt Tryz.prog 8 [brdD b, strD s, ints xs] (.bool true) := by
  refine PureAt.of_awp Tryz.func8 rfl (by kernel_rfl) (Nat.le_of_ble_eq_true rfl) fun Γ hn hl => ?_
  obtain ⟨hpo, hl8⟩ := read_prts (b := b) (s := s)
  refine awp_seq ?_
  refine awp_region ?_
  refine stepW (s_box 3 rfl rfl rfl (nb hn rfl) rfl rfl) fun b3 => ?_
  refine sq rfl rfl hn rfl (q_assign rfl rfl) ?_
  refine run_nil ?_
  refine aend_then ?_
  refine awp_seq ?_
  refine awp_seq ?_
  refine awp_region ?_
  refine sq rfl rfl hn rfl (q_loadAd rfl rfl (id := 3) rfl Tryz.underlying24 rfl sz24 rfl rfl sees0) ?_
  refine sq rfl rfl hn rfl (q_move rfl rfl) ?_
  refine stepW (s_call [] (fun _ => Thin_ok b s hN) rfl (guard_none rfl) rfl (nb hn rfl) (fun _ => trivial) rfl rfl (.refl _)) fun _ => ?_
  refine sq rfl rfl hn rfl (q_not rfl rfl) ?_
  refine sq rfl rfl hn rfl (q_move rfl rfl) ?_
  refine stepG [] (guard_some rfl rfl rfl) rfl (nb hn rfl) (fun hc => trivial) (fun hc => q_move rfl rfl) ?_
  refine stepG [(15, _)] (guard_some rfl rfl rfl) rfl (nb hn rfl) (fun hc => ⟨⟨_, rfl, hc⟩, trivial⟩) (fun hc => q_len rfl rfl Tryz.underlying57) ?_
  refine stepG [(16, _)] (guard_some rfl rfl rfl) rfl (nb hn rfl) (fun hc => ⟨⟨_, rfl, hc⟩, trivial⟩) (fun hc => q_gtr rfl rfl rfl) ?_
  refine sq rfl rfl hn rfl (q_or rfl rfl rfl (by intro hB; first | (rw [hB]; rfl) | (rw [hB, hc]; rfl) | simp_all)) ?_
  refine run_nil ?_
  refine aend_then ?_
  refine awp_cond rfl (fun hb0 => ?_) (fun hb0 => ?_)
  · skip
    refine awp_seq ?_
    refine awp_region ?_
    refine stepW (s_call [] (fun _ => awake_ok) rfl (guard_none rfl) rfl (nb hn rfl) (fun _ => trivial) rfl rfl (.refl _)) fun _ => ?_
    refine sq rfl rfl hn rfl (q_assign rfl rfl) ?_
    refine run_nil ?_
    refine aend_then ?_
    refine awp_ret ?_
    refine aend_then_ret ?_
    exact ret_1 (.inl rfl) hl rfl (.tmp rfl)
  · skip
    obtain ⟨hth, hx12⟩ : thinT b s.length = true ∧ (xs.length : Int) ≤ 12 := by simpa using hb0
    obtain ⟨hb7, hs2⟩ := thin_bd hth
    refine awp_skip ?_
    refine aend_then ?_
    refine awp_seq ?_
    refine awp_region ?_
    refine sq rfl rfl hn rfl (q_loadAd rfl rfl (id := 3) rfl Tryz.underlying24 rfl sz24 rfl rfl sees0) ?_
    refine stepW (s_call [] (fun _ => Board_ok b (by omega)) rfl (guard_none rfl) rfl (nb hn rfl) (fun _ => trivial) rfl rfl (.refl _)) fun _ => ?_
    refine sq rfl rfl hn rfl (q_move rfl rfl) ?_
    refine sq rfl rfl hn rfl (q_move rfl rfl) ?_
    refine stepW (s_call [] (fun _ => list_ok _ (by omega)) rfl (guard_none rfl) rfl (nb hn rfl) (fun _ => trivial) rfl rfl (.refl _)) fun _ => ?_
    refine stepW (s_call [] (fun _ => ProveTruth_ok b s xs hN (by omega)) rfl (guard_none rfl) rfl (nb hn rfl) (fun _ => trivial) rfl rfl (.refl _)) fun _ => ?_
    refine sq rfl rfl hn rfl (q_assign rfl rfl) ?_
    refine run_nil ?_
    refine aend_then ?_
    refine awp_seq ?_
    refine awp_region ?_
    refine sq rfl rfl hn rfl (q_loadAd rfl rfl (id := 3) rfl Tryz.underlying24 rfl sz24 rfl rfl sees0) ?_
    refine sq rfl rfl hn rfl (q_move rfl rfl) ?_
    refine stepW (s_call [] (fun _ => read_law b s hN (by omega)) rfl (guard_none rfl) rfl (nb hn rfl) (fun _ => trivial) rfl rfl (.refl _)) fun _ => ?_
    refine sq rfl rfl hn rfl (q_move rfl rfl) ?_
    refine sq rfl rfl hn rfl (q_extractd rfl rfl rfl) ?_
    refine sq rfl rfl hn rfl (q_extractd rfl rfl rfl) ?_
    refine sq rfl rfl hn rfl (q_assign rfl rfl) ?_
    refine sq rfl rfl hn rfl (q_assign rfl rfl) ?_
    refine run_nil ?_
    refine aend_then ?_
    refine awp_seq ?_
    refine awp_region ?_
    refine sq rfl rfl hn rfl (q_move rfl rfl) ?_
    refine sq rfl rfl hn rfl (q_move rfl rfl) ?_
    refine sq rfl rfl hn rfl (q_eql rfl rfl rfl) ?_
    refine sq rfl rfl hn rfl (q_move rfl rfl) ?_
    refine stepG [] (guard_some rfl rfl rfl) rfl (nb hn rfl) (fun hc => trivial) (fun hc => q_loadAd rfl rfl (id := 3) rfl Tryz.underlying24 rfl sz24 rfl rfl sees0) ?_
    refine stepG [] (guard_some rfl rfl rfl) rfl (nb hn rfl) (fun hc => trivial) (fun hc => q_move rfl rfl) ?_
    refine stepG [] (guard_some rfl rfl rfl) rfl (nb hn rfl) (fun hc => trivial) (fun hc => q_move rfl rfl) ?_
    refine stepW (s_call [(36, _), (37, _), (38, _)] (fun hc => IsTruth_ok b (readI b s).1 xs 0 (read_valid (by simpa using hc)) hpo (by omega) (by omega)) rfl (guard_some rfl rfl rfl) rfl (nb hn rfl) (fun hc => ⟨⟨_, rfl, hc⟩, ⟨_, rfl, hc⟩, ⟨_, rfl, hc⟩, trivial⟩) rfl rfl (.refl _)) fun _ => ?_
    refine sq rfl rfl hn rfl (q_and rfl rfl rfl (by intro hB; first | (rw [hB]; rfl) | (rw [hB, hc]; rfl) | simp_all)) ?_
    refine sq rfl rfl hn rfl (q_eqlB rfl rfl rfl Tryz.underlying4) ?_
    refine sq rfl rfl hn rfl (q_move rfl rfl) ?_
    refine stepW (s_call [] (fun hc => awake_ok) rfl (guard_some rfl rfl rfl) rfl (nb hn rfl) (fun hc => trivial) rfl rfl (.refl _)) fun _ => ?_
    refine sq rfl rfl hn rfl (q_and rfl rfl rfl (by intro hB; first | (rw [hB]; rfl) | (rw [hB, hc]; rfl) | simp_all)) ?_
    refine sq rfl rfl hn rfl (q_assign rfl rfl) ?_
    refine run_nil ?_
    refine aend_then ?_
    refine awp_ret ?_
    refine ret_eq (ret_1 (.inl rfl) hl rfl (.tmp rfl)) ?_
    rw [← prove_law]; simp
end Go.Proofs.YtplpcamcnppibaaGreatDoor
