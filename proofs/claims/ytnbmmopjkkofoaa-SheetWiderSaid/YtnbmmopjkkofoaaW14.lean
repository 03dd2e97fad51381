/-
  Walks by the rules of Base, printed by gen.py: what is asked of the evenings. No condition: no statement of the seat is proved here.
-/
import Derived.Test.YtnbmmopjkkofoaaW13
namespace Go.Proofs.Ytnbmmopjkkofoaa
open Go.RowKit
set_option maxRecDepth 20000
set_option linter.all false

theorem awake_ok : PureAt Try.prog 15 [] (.bool true) := PureAt.of_eff (ds := []) awake_eff
theorem thin_bd {r : Reg} (h : thinB r = true) : r.start.length ≤ 7 ∧ r.entries.length ≤ 9 ∧ r.sights.length ≤ 7 := by
  simp [thinB] at h
  omega
theorem all_len (r : Reg) (v : Valid r) : ∀ o ∈ allDays r, o.length = 200 := fun o ho => by
  obtain ⟨t, _, rfl⟩ := List.mem_map.1 ho
  exact refPlay_len v t
theorem all_le (r : Reg) (v : Valid r) : (allDays r).length ≤ 1000000 := by
  unfold allDays
  rw [List.length_map]
  exact Nat.le_trans truthsF_len (manyN_valid v).2
/-- What is returned where a day is asked for, in all. -/
theorem ask_bad0 {r : Reg} {is : Bool} {N : Int} {out : List Nat} {e : Int} (h0 : checkE r ≠ 0) (h : AskP r is N out e) : out = [] ∧ e = checkE r := by
  rcases h with ⟨_, h1, h2⟩ | ⟨k, _⟩ | ⟨k, _⟩
  · exact ⟨h1, h2⟩
  · exact (h0 k).elim
  · exact (h0 k).elim
def wantE (r : Reg) (is : Bool) (N : Int) : Int := if (is && dayB N) = true then (if allDays r = [] then 9 else 0) else 2
theorem ask_full {r : Reg} {is : Bool} {N : Int} {out : List Nat} {e : Int} (v : Valid r) (h : AskP r is N out e) : e = wantE r is N ∧ (e ≠ 0 → out = []) ∧ (e = 0 → is = true ∧ (0 ≤ N ∧ N ≤ 9) ∧ ∃ n : Nat, N = n ∧ n ≤ 9 ∧ EvOK r n out ∧ out ≠ []) := by
  have h0 := checkE_of v
  unfold wantE
  rcases h with ⟨k, _, _⟩ | ⟨_, k, h1, h2⟩ | ⟨_, his, n, hn, h9, hev, he⟩
  · exact (k h0).elim
  · rw [k, if_neg (by simp)]
    exact ⟨h2, fun _ => h1, fun e0 => by omega⟩
  · have hd : dayB N = true := by simp [dayB]; omega
    rw [his, hd]
    simp only [Bool.and_self, if_true]
    cases out with
    | nil =>
      rw [if_pos ((ev_nil v h9 hev).1 rfl)]
      exact ⟨he, fun _ => rfl, fun e0 => by rw [he] at e0; simp at e0⟩
    | cons m l =>
      have hne : allDays r ≠ [] := fun e => by have := (ev_nil v h9 hev).2 e; cases this
      rw [if_neg hne]
      have he0 : e = 0 := he
      exact ⟨he0, fun k => (k he0).elim, fun _ => ⟨trivial, by omega, n, hn, h9, hev, by simp⟩⟩
theorem hold_full {r : Reg} {s N : Int} (v : Valid r) (x : AskX r (sheetB r s) N) : x.1.2 = wantE r (sheetB r s) N ∧ (x.1.2 ≠ 0 → holdR r s x.1.1 = []) ∧ (x.1.2 = 0 → (0 ≤ s ∧ s < 4) ∧ (0 ≤ N ∧ N ≤ 9) ∧ holdR r s x.1.1 = refHolders r (allDays r) s.toNat N.toNat r.houses.toNat) := by
  obtain ⟨h1, h2, h3⟩ := ask_full v x.2
  refine ⟨h1, fun h => by rw [h2 h]; exact hold_nil r s, fun h => ?_⟩
  obtain ⟨his, hN, n, hn, h9, hev, _⟩ := h3 h
  have hb := sheetB_bd v his
  refine ⟨by omega, hN, ?_⟩
  have := holders_eq (s := s.toNat) v h9 (by omega) hev
  rw [show ((s.toNat : Nat) : Int) = s by omega] at this
  rw [this, show N.toNat = n by omega]
theorem sure_full {r : Reg} {a N : Int} (v : Valid r) (x : AskX r (houseB r a) N) : x.1.2 = wantE r (houseB r a) N ∧ (x.1.2 ≠ 0 → surelyR r a x.1.1 = []) ∧ (x.1.2 = 0 → (0 ≤ N ∧ N ≤ 9) ∧ surelyR r a x.1.1 = refSurely (allDays r) a N.toNat r.start.length) := by
  obtain ⟨h1, h2, h3⟩ := ask_full v x.2
  refine ⟨h1, fun h => by rw [h2 h]; rfl, fun h => ?_⟩
  obtain ⟨his, hN, n, hn, h9, hev, hne⟩ := h3 h
  refine ⟨hN, ?_⟩
  rw [surely_eq v h9 hne hev, show N.toNat = n by omega]
theorem held_full {r : Reg} {a N : Int} (v : Valid r) (x : AskX r (houseB r a) N) : x.1.2 = wantE r (houseB r a) N ∧ (x.1.2 ≠ 0 → heldR r a x.1.1 = (0, 0)) ∧ (x.1.2 = 0 → (0 ≤ N ∧ N ≤ 9) ∧ heldR r a x.1.1 = refInHand r (allDays r) a N.toNat) := by
  obtain ⟨h1, h2, h3⟩ := ask_full v x.2
  refine ⟨h1, fun h => by rw [h2 h]; rfl, fun h => ?_⟩
  obtain ⟨his, hN, n, hn, h9, hev, hne⟩ := h3 h
  refine ⟨hN, ?_⟩
  rw [held_eq v h9 hne hev, show N.toNat = n by omega]
theorem houseB_bd {r : Reg} {a : Int} (v : Valid r) (h : houseB r a = true) : 0 ≤ a ∧ a < 4 := by
  rw [houseB_eq v.h1 v.h4] at h
  have := v.h4
  simp at h
  omega
theorem owed_full {r : Reg} {a b N : Int} (v : Valid r) (x : AskX r (houseB r a && houseB r b) N) : x.1.2 = wantE r (houseB r a && houseB r b) N ∧ (x.1.2 ≠ 0 → owedR r a b x.1.1 = (0, 0)) ∧ (x.1.2 = 0 → (0 ≤ a ∧ a < 4) ∧ (0 ≤ b ∧ b < 4) ∧ (0 ≤ N ∧ N ≤ 9) ∧ owedR r a b x.1.1 = refOwed (allDays r) a.toNat b.toNat N.toNat) := by
  obtain ⟨h1, h2, h3⟩ := ask_full v x.2
  refine ⟨h1, fun h => by rw [h2 h]; rfl, fun h => ?_⟩
  obtain ⟨his, hN, n, hn, h9, hev, hne⟩ := h3 h
  simp only [Bool.and_eq_true] at his
  have ha := houseB_bd v his.1
  have hb := houseB_bd v his.2
  refine ⟨ha, hb, hN, ?_⟩
  have := owed_eq (a := a.toNat) (b := b.toNat) v (by omega) (by omega) h9 hne hev
  rw [show ((a.toNat : Nat) : Int) = a by omega, show ((b.toNat : Nat) : Int) = b by omega] at this
  rw [this, show N.toNat = n by omega]
theorem guard0 {w : Int} (h : ((w != 0) == false) = true) : w = 0 := by simpa using h
theorem or_same {w : Int} {a b : List Int} (h : w = 0 → a = b) : (w != 0 || sameB a b) = true := by
  by_cases k : w = 0
  · rw [h k, sameB_self, Bool.or_true]
  · simp [k]
theorem few_f {r : Reg} {most : Int} (h : (!(thinB r && ((checkE r != 0) || decide ((manyN r.entries : Int) ≤ most)))) = false) : r.start.length ≤ 7 ∧ r.entries.length ≤ 9 ∧ r.sights.length ≤ 7 := by
  simp only [Bool.not_eq_false', Bool.and_eq_true] at h
  exact thin_bd h.1


theorem SheetHolds_eff (r : Reg) (s house day : Int) : EffAt Try.prog 3 [.d (regD r), .d (.int .i64 s), .d (.int .i64 house), .d (.int .i64 day)] [] (X := Unit) (fun _ => .d (.bool true)) (fun _ => []) := by
  refine EffAt.of_awp Try.func3 rfl (by kernel_rfl) rfl fun Γ hn => ?_
  refine awp_seq ?_
  refine awp_region ?_
  refine stepW (s_box 4 rfl rfl rfl (nb hn rfl) rfl rfl) fun b4 => ?_
  refine sq rfl rfl hn rfl (q_assign rfl rfl) ?_
  refine run_nil ?_
  refine aend_then ?_
  refine awp_seq ?_
  refine awp_seq ?_
  refine awp_region ?_
  refine sq rfl rfl hn rfl (q_loadAd rfl rfl (id := 4) rfl Try.underlying26 rfl sz26 rfl rfl sees0) ?_
  refine stepW (s_call [] (fun _ => few_ok r 800) rfl (guard_none rfl) rfl (nb hn rfl) (fun _ => trivial) rfl rfl (.refl _)) fun _ => ?_
  refine sq rfl rfl hn rfl (q_not rfl rfl) ?_
  refine run_nil ?_
  refine aend_then ?_
  refine awp_cond rfl (fun hb0 => ?_) (fun hb0 => ?_)
  · skip
    refine awp_seq ?_
    refine awp_region ?_
    refine stepW (s_call [] (fun _ => awake_ok) rfl (guard_none rfl) rfl (nb hn rfl) (fun _ => trivial) rfl rfl (.refl _)) fun _ => ?_
    refine sq rfl rfl hn rfl (q_assign rfl rfl) ?_
    refine run_nil ?_
    refine aend_then ?_
    refine awp_ret ?_
    refine aend_then_ret ?_
    exact ret_E (.inl rfl) () (hands_1 rfl (.tmp rfl)) trivial
  · skip
    have hfew := few_f hb0
    refine awp_skip ?_
    refine aend_then ?_
    refine awp_seq ?_
    refine awp_region ?_
    refine sq rfl rfl hn rfl (q_loadAd rfl rfl (id := 4) rfl Try.underlying26 rfl sz26 rfl rfl sees0) ?_
    refine stepW (s_call [] (fun _ => Register_ok r (by omega) (by omega) (by omega)) rfl (guard_none rfl) rfl (nb hn rfl) (fun _ => trivial) rfl rfl (.refl _)) fun _ => ?_
    refine sq rfl rfl hn rfl (q_move rfl rfl) ?_
    refine sq rfl rfl hn rfl (q_move rfl rfl) ?_
    refine stepW (s_callE (Holders_eff r s day) rfl rfl rfl (nb hn rfl) (.d rfl) rfl (.refl _) trivial (fun _ => rfl) (fun _ _ => trivial)) fun x1 => ?_
    refine sq rfl rfl hn rfl (q_move rfl rfl) ?_
    refine sq rfl rfl hn rfl (q_extractd rfl rfl rfl) ?_
    refine sq rfl rfl hn rfl (q_extractd rfl rfl rfl) ?_
    refine sq rfl rfl hn rfl (q_assign rfl rfl) ?_
    refine sq rfl rfl hn rfl (q_assign rfl rfl) ?_
    refine run_nil ?_
    refine aend_then ?_
    refine awp_seq ?_
    refine awp_region ?_
    refine sq rfl rfl hn rfl (q_loadAd rfl rfl (id := 4) rfl Try.underlying26 rfl sz26 rfl rfl sees0) ?_
    refine stepW (s_call [] (fun _ => Register_ok r (by omega) (by omega) (by omega)) rfl (guard_none rfl) rfl (nb hn rfl) (fun _ => trivial) rfl rfl (.refl _)) fun _ => ?_
    refine sq rfl rfl hn rfl (q_move rfl rfl) ?_
    refine sq rfl rfl hn rfl (q_move rfl rfl) ?_
    refine stepW (s_callE (Surely_eff r house day) rfl rfl rfl (nb hn rfl) (.d rfl) rfl (.refl _) trivial (fun _ => rfl) (fun _ _ => trivial)) fun x2 => ?_
    refine sq rfl rfl hn rfl (q_move rfl rfl) ?_
    refine sq rfl rfl hn rfl (q_extractd rfl rfl rfl) ?_
    refine sq rfl rfl hn rfl (q_extractd rfl rfl rfl) ?_
    refine sq rfl rfl hn rfl (q_assign rfl rfl) ?_
    refine sq rfl rfl hn rfl (q_assign rfl rfl) ?_
    refine run_nil ?_
    refine aend_then ?_
    refine awp_seq ?_
    refine awp_seq ?_
    refine awp_region ?_
    refine sq rfl rfl hn rfl (q_loadAd rfl rfl (id := 4) rfl Try.underlying26 rfl sz26 rfl rfl sees0) ?_
    refine stepW (s_call [] (fun _ => fault_ok r) rfl (guard_none rfl) rfl (nb hn rfl) (fun _ => trivial) rfl rfl (.refl _)) fun _ => ?_
    refine sq rfl rfl hn rfl (q_assign rfl rfl) ?_
    refine run_nil ?_
    refine aend_then ?_
    refine awp_seq ?_
    refine awp_region ?_
    refine sq rfl rfl hn rfl (q_move rfl rfl) ?_
    refine sq rfl rfl hn rfl (q_neq rfl rfl rfl) ?_
    refine run_nil ?_
    refine aend_then ?_
    refine awp_cond rfl (fun hb1 => ?_) (fun hb1 => ?_)
    · skip
      have hc0 : checkE r ≠ 0 := by simpa using hb1
      obtain ⟨ho1, he1⟩ := ask_bad0 hc0 x1.2
      obtain ⟨ho2, he2⟩ := ask_bad0 hc0 x2.2
      rw [ho1, ho2, he1, he2, hold_nil, show surelyR r house [] = [] from rfl]
      refine awp_seq ?_
      refine awp_region ?_
      refine sq rfl rfl hn rfl (q_move rfl rfl) ?_
      refine sq rfl rfl hn rfl (q_move rfl rfl) ?_
      refine sq rfl rfl hn rfl (q_eql rfl rfl rfl) ?_
      refine sq rfl rfl hn rfl (q_move rfl rfl) ?_
      refine stepG [] (guard_some rfl rfl rfl) rfl (nb hn rfl) (fun hc => trivial) (fun hc => q_move rfl rfl) ?_
      refine stepG [] (guard_some rfl rfl rfl) rfl (nb hn rfl) (fun hc => trivial) (fun hc => q_move rfl rfl) ?_
      refine stepG [(45, _), (46, _)] (guard_some rfl rfl rfl) rfl (nb hn rfl) (fun hc => ⟨⟨_, rfl, hc⟩, ⟨_, rfl, hc⟩, trivial⟩) (fun hc => q_eql rfl rfl rfl) ?_
      refine sq rfl rfl hn rfl (q_and rfl rfl rfl (by intro hB; first | (rw [hB]; rfl) | (rw [hB, hc]; rfl) | simp_all)) ?_
      refine sq rfl rfl hn rfl (q_move rfl rfl) ?_
      refine stepG [] (guard_some rfl rfl rfl) rfl (nb hn rfl) (fun hc => trivial) (fun hc => q_move rfl rfl) ?_
      refine stepG [(50, _)] (guard_some rfl rfl rfl) rfl (nb hn rfl) (fun hc => ⟨⟨_, rfl, hc⟩, trivial⟩) (fun hc => q_len rfl rfl Try.underlying22) ?_
      refine stepG [] (guard_some rfl rfl rfl) rfl (nb hn rfl) (fun hc => trivial) (fun hc => q_move rfl rfl) ?_
      refine stepG [(52, _)] (guard_some rfl rfl rfl) rfl (nb hn rfl) (fun hc => ⟨⟨_, rfl, hc⟩, trivial⟩) (fun hc => q_len rfl rfl Try.underlying22) ?_
      refine stepG [(51, _), (53, _)] (guard_some rfl rfl rfl) rfl (nb hn rfl) (fun hc => ⟨⟨_, rfl, hc⟩, ⟨_, rfl, hc⟩, trivial⟩) (fun hc => q_add rfl rfl rfl (r := 0) (by decide)) ?_
      refine stepG [(54, _)] (guard_some rfl rfl rfl) rfl (nb hn rfl) (fun hc => ⟨⟨_, rfl, hc⟩, trivial⟩) (fun hc => q_eql rfl rfl rfl) ?_
      refine sq rfl rfl hn rfl (q_and rfl rfl rfl (by intro hB; first | (rw [hB]; rfl) | (rw [hB, hc]; rfl) | simp_all)) ?_
      refine sq rfl rfl hn rfl (q_move rfl rfl) ?_
      refine stepW (s_call [] (fun hc => awake_ok) rfl (guard_some rfl rfl rfl) rfl (nb hn rfl) (fun hc => trivial) rfl rfl (.refl _)) fun _ => ?_
      refine sq rfl rfl hn rfl (q_and rfl rfl rfl (by intro hB; first | (rw [hB]; rfl) | (rw [hB, hc]; rfl) | simp_all)) ?_
      refine sq rfl rfl hn rfl (q_assign rfl rfl) ?_
      refine run_nil ?_
      refine aend_then ?_
      refine awp_ret ?_
      refine aend_then_ret ?_
      exact ret_E (.inl rfl) () ((hands_1 rfl (.tmp rfl)).eq (by simp)) trivial
    · skip
      have hc0 : checkE r = 0 := by simpa using hb1
      have v := valid_of hc0
      have hv4 := v.s4
      have hvh := v.h4
      have hv1 := v.h1
      obtain ⟨he1, hz1, hg1⟩ := hold_full v x1
      obtain ⟨he2, hz2, hg2⟩ := sure_full v x2
      have hb1 := houseB_eq (n := house) v.h1 v.h4
      refine awp_skip ?_
      refine aend_then ?_
      refine awp_seq ?_
      refine awp_region ?_
      refine sq rfl rfl hn rfl (q_loadAd rfl rfl (id := 4) rfl Try.underlying26 rfl sz26 rfl rfl sees0) ?_
      refine stepW (s_call [] (fun _ => All_ok r v) rfl (guard_none rfl) rfl (nb hn rfl) (fun _ => trivial) rfl rfl (.refl _)) fun _ => ?_
      refine sq rfl rfl hn rfl (q_assign rfl rfl) ?_
      refine run_nil ?_
      refine aend_then ?_
      refine awp_seq ?_
      refine awp_region ?_
      refine sq rfl rfl hn rfl (q_assign rfl rfl) ?_
      refine sq rfl rfl hn rfl (q_assign rfl rfl) ?_
      refine run_nil ?_
      refine aend_then ?_
      refine awp_seq ?_
      refine awp_seq ?_
      refine awp_region ?_
      refine sq rfl rfl hn rfl (q_move rfl rfl) ?_
      refine sq rfl rfl hn rfl (q_len rfl rfl Try.underlying38) ?_
      refine sq rfl rfl hn rfl (q_eql rfl rfl rfl) ?_
      refine run_nil ?_
      refine aend_then ?_
      refine awp_join_on (e := .normal) (ι := {x : Int // x = if allDays r = [] then 9 else 0}) (fun x => [(15, true, .d (.int .i64 x.1)), (16, true, .d (.int .i64 x.1))]) (fun x => []) (fun hJ2 => ?_) ?_
      · skip
        refine awp_cond rfl (fun hb2 => ?_) (fun hb2 => ?_)
        · skip
          refine awp_region ?_
          refine sq rfl rfl hn rfl (q_assign rfl rfl) ?_
          refine sq rfl rfl hn rfl (q_assign rfl rfl) ?_
          refine run_nil ?_
          exact aend_join_on hJ2 ⟨9, by rw [if_pos]; simpa using hb2⟩ ⟨.inl rfl, .inl rfl, trivial⟩ trivial (by repeat (first | exact kr _ | refine kc rfl ?_)) (by repeat (first | exact kr _ | refine kc rfl ?_))
        · skip
          refine awp_skip ?_
          exact aend_join_on hJ2 ⟨0, by rw [if_neg]; simpa using hb2⟩ ⟨.inl rfl, .inl rfl, trivial⟩ trivial (by repeat (first | exact kr _ | refine kc rfl ?_)) (by repeat (first | exact kr _ | refine kc rfl ?_))
      · rintro ⟨w0, hw0⟩
        dsimp only
        refine aend_then ?_
        refine awp_seq ?_
        refine awp_seq ?_
        refine awp_region ?_
        refine sq rfl rfl hn rfl (q_move rfl rfl) ?_
        refine sq rfl rfl hn rfl (q_fieldAddr rfl rfl Try.underlying26 rfl sz22) ?_
        refine sq rfl rfl hn rfl (q_load rfl rfl (id := 4) rfl Try.underlying22 rfl rfl sees0) ?_
        refine sq rfl rfl hn rfl (q_len rfl rfl Try.underlying22) ?_
        refine sq rfl rfl hn rfl (q_sub rfl rfl rfl (r := (r.start.length : Int) - 1) (i64w (by simp only [List.length_map]; omega) (by simp))) ?_
        refine stepW (s_call [] (fun _ => In_ok _ _ _) rfl (guard_none rfl) rfl (nb hn rfl) (fun _ => trivial) rfl rfl (.refl _)) fun _ => ?_
        refine sq rfl rfl hn rfl (q_not rfl rfl) ?_
        refine sq rfl rfl hn rfl (q_move rfl rfl) ?_
        refine stepG [] (guard_some rfl rfl rfl) rfl (nb hn rfl) (fun hc => trivial) (fun hc => q_move rfl rfl) ?_
        refine stepW (s_call [(73, _)] (fun hc => In_ok _ _ _) rfl (guard_some rfl rfl rfl) rfl (nb hn rfl) (fun hc => ⟨⟨_, rfl, hc⟩, trivial⟩) rfl rfl (.refl _)) fun _ => ?_
        refine stepG [(74, _)] (guard_some rfl rfl rfl) rfl (nb hn rfl) (fun hc => ⟨⟨_, rfl, hc⟩, trivial⟩) (fun hc => q_not rfl rfl) ?_
        refine sq rfl rfl hn rfl (q_or rfl rfl rfl (by intro hB; first | (rw [hB]; rfl) | (rw [hB, hc]; rfl) | simp_all)) ?_
        refine run_nil ?_
        refine aend_then ?_
        refine awp_join_on (e := .normal) (ι := {x : Int // x = wantE r (sheetB r s) day}) (fun x => [(15, true, .d (.int .i64 x.1))]) (fun x => []) (fun hJ3 => ?_) ?_
        · skip
          refine awp_cond rfl (fun hb3 => ?_) (fun hb3 => ?_)
          · skip
            refine awp_region ?_
            refine sq rfl rfl hn rfl (q_assign rfl rfl) ?_
            refine run_nil ?_
            exact aend_join_on hJ3 ⟨2, by rw [wantE, if_neg]; intro hh; simp [sheetB, dayB] at hh; simp at hb3; omega⟩ ⟨.inl rfl, trivial⟩ trivial (by repeat (first | exact kr _ | refine kc rfl ?_)) (by repeat (first | exact kr _ | refine kc rfl ?_))
          · skip
            refine awp_skip ?_
            exact aend_join_on hJ3 ⟨w0, by rw [wantE, if_pos]; exact hw0; simp [sheetB, dayB]; simp at hb3; omega⟩ ⟨.inl rfl, trivial⟩ trivial (by repeat (first | exact kr _ | refine kc rfl ?_)) (by repeat (first | exact kr _ | refine kc rfl ?_))
        · rintro ⟨w1, hw1⟩
          dsimp only
          refine aend_then ?_
          refine awp_seq ?_
          refine awp_seq ?_
          refine awp_region ?_
          refine sq rfl rfl hn rfl (q_move rfl rfl) ?_
          refine sq rfl rfl hn rfl (q_fieldAddr rfl rfl Try.underlying26 rfl sz3) ?_
          refine sq rfl rfl hn rfl (q_load rfl rfl (id := 4) rfl Try.underlying3 rfl rfl sees0) ?_
          refine sq rfl rfl hn rfl (q_sub rfl rfl rfl (r := r.houses - 1) (i64w (by omega) rfl)) ?_
          refine stepW (s_call [] (fun _ => In_ok _ _ _) rfl (guard_none rfl) rfl (nb hn rfl) (fun _ => trivial) rfl rfl (.refl _)) fun _ => ?_
          refine sq rfl rfl hn rfl (q_not rfl rfl) ?_
          refine sq rfl rfl hn rfl (q_move rfl rfl) ?_
          refine stepG [] (guard_some rfl rfl rfl) rfl (nb hn rfl) (fun hc => trivial) (fun hc => q_move rfl rfl) ?_
          refine stepW (s_call [(84, _)] (fun hc => In_ok _ _ _) rfl (guard_some rfl rfl rfl) rfl (nb hn rfl) (fun hc => ⟨⟨_, rfl, hc⟩, trivial⟩) rfl rfl (.refl _)) fun _ => ?_
          refine stepG [(85, _)] (guard_some rfl rfl rfl) rfl (nb hn rfl) (fun hc => ⟨⟨_, rfl, hc⟩, trivial⟩) (fun hc => q_not rfl rfl) ?_
          refine sq rfl rfl hn rfl (q_or rfl rfl rfl (by intro hB; first | (rw [hB]; rfl) | (rw [hB, hc]; rfl) | simp_all)) ?_
          refine run_nil ?_
          refine aend_then ?_
          refine awp_join_on (e := .normal) (ι := {x : Int // x = wantE r (houseB r house) day}) (fun x => [(16, true, .d (.int .i64 x.1))]) (fun x => []) (fun hJ4 => ?_) ?_
          · skip
            refine awp_cond rfl (fun hb4 => ?_) (fun hb4 => ?_)
            · skip
              refine awp_region ?_
              refine sq rfl rfl hn rfl (q_assign rfl rfl) ?_
              refine run_nil ?_
              exact aend_join_on hJ4 ⟨2, by rw [wantE, if_neg]; intro hh; rw [hb1] at hh; simp [dayB] at hh; simp at hb4; omega⟩ ⟨.inl rfl, trivial⟩ trivial (by repeat (first | exact kr _ | refine kc rfl ?_)) (by repeat (first | exact kr _ | refine kc rfl ?_))
            · skip
              refine awp_skip ?_
              exact aend_join_on hJ4 ⟨w0, by rw [wantE, if_pos]; exact hw0; rw [hb1]; simp [dayB]; simp at hb4; omega⟩ ⟨.inl rfl, trivial⟩ trivial (by repeat (first | exact kr _ | refine kc rfl ?_)) (by repeat (first | exact kr _ | refine kc rfl ?_))
          · rintro ⟨w2, hw2⟩
            dsimp only
            refine aend_then ?_
            refine awp_seq ?_
            refine awp_seq ?_
            rw [← hw1] at he1
            rw [← hw2] at he2
            rw [he1, he2]
            rw [he1] at hz1 hg1
            rw [he2] at hz2 hg2
            refine awp_region ?_
            refine sq rfl rfl hn rfl (q_move rfl rfl) ?_
            refine sq rfl rfl hn rfl (q_move rfl rfl) ?_
            refine sq rfl rfl hn rfl (q_neq rfl rfl rfl) ?_
            refine sq rfl rfl hn rfl (q_move rfl rfl) ?_
            refine stepG [] (guard_some rfl rfl rfl) rfl (nb hn rfl) (fun hc => trivial) (fun hc => q_move rfl rfl) ?_
            refine stepG [] (guard_some rfl rfl rfl) rfl (nb hn rfl) (fun hc => trivial) (fun hc => q_move rfl rfl) ?_
            refine stepG [(92, _), (93, _)] (guard_some rfl rfl rfl) rfl (nb hn rfl) (fun hc => ⟨⟨_, rfl, hc⟩, ⟨_, rfl, hc⟩, trivial⟩) (fun hc => q_neq rfl rfl rfl) ?_
            refine sq rfl rfl hn rfl (q_or rfl rfl rfl (by intro hB; first | (rw [hB]; rfl) | (rw [hB, hc]; rfl) | simp_all)) ?_
            refine sq rfl rfl hn rfl (q_move rfl rfl) ?_
            refine stepG [] (guard_some rfl rfl rfl) rfl (nb hn rfl) (fun hc => trivial) (fun hc => q_move rfl rfl) ?_
            refine stepG [(97, _)] (guard_some rfl rfl rfl) rfl (nb hn rfl) (fun hc => ⟨⟨_, rfl, hc⟩, trivial⟩) (fun hc => q_neq rfl rfl rfl) ?_
            refine stepG [(98, _)] (guard_some rfl rfl rfl) rfl (nb hn rfl) (fun hc => ⟨⟨_, rfl, hc⟩, trivial⟩) (fun hc => q_move rfl rfl) ?_
            refine stepG [] (guard_some rfl rfl rfl) rfl (nb hn rfl) (fun hc => trivial) (fun hc => q_move rfl rfl) ?_
            refine stepG [(100, _)] (guard_some rfl rfl rfl) rfl (nb hn rfl) (fun hc => ⟨⟨_, rfl, hc⟩, trivial⟩) (fun hc => q_len rfl rfl Try.underlying22) ?_
            refine stepG [(101, _)] (guard_some rfl rfl rfl) rfl (nb hn rfl) (fun hc => ⟨⟨_, rfl, hc⟩, trivial⟩) (fun hc => q_gtr rfl rfl rfl) ?_
            refine stepG [(99, _)] (guard_some rfl rfl rfl) rfl (nb hn rfl) (fun hc => ⟨⟨_, rfl, hc⟩, trivial⟩) (fun hc => q_and rfl rfl rfl (by intro hB; first | (rw [hB]; rfl) | (rw [hB, hc]; rfl) | simp_all)) ?_
            refine sq rfl rfl hn rfl (q_or rfl rfl rfl (by intro hB; first | (rw [hB]; rfl) | (rw [hB, hc]; rfl) | simp_all)) ?_
            refine sq rfl rfl hn rfl (q_move rfl rfl) ?_
            refine stepG [] (guard_some rfl rfl rfl) rfl (nb hn rfl) (fun hc => trivial) (fun hc => q_move rfl rfl) ?_
            refine stepG [(106, _)] (guard_some rfl rfl rfl) rfl (nb hn rfl) (fun hc => ⟨⟨_, rfl, hc⟩, trivial⟩) (fun hc => q_neq rfl rfl rfl) ?_
            refine stepG [(107, _)] (guard_some rfl rfl rfl) rfl (nb hn rfl) (fun hc => ⟨⟨_, rfl, hc⟩, trivial⟩) (fun hc => q_move rfl rfl) ?_
            refine stepG [] (guard_some rfl rfl rfl) rfl (nb hn rfl) (fun hc => trivial) (fun hc => q_move rfl rfl) ?_
            refine stepG [(109, _)] (guard_some rfl rfl rfl) rfl (nb hn rfl) (fun hc => ⟨⟨_, rfl, hc⟩, trivial⟩) (fun hc => q_len rfl rfl Try.underlying22) ?_
            refine stepG [(110, _)] (guard_some rfl rfl rfl) rfl (nb hn rfl) (fun hc => ⟨⟨_, rfl, hc⟩, trivial⟩) (fun hc => q_gtr rfl rfl rfl) ?_
            refine stepG [(108, _)] (guard_some rfl rfl rfl) rfl (nb hn rfl) (fun hc => ⟨⟨_, rfl, hc⟩, trivial⟩) (fun hc => q_and rfl rfl rfl (by intro hB; first | (rw [hB]; rfl) | (rw [hB, hc]; rfl) | simp_all)) ?_
            refine sq rfl rfl hn rfl (q_or rfl rfl rfl (by intro hB; first | (rw [hB]; rfl) | (rw [hB, hc]; rfl) | simp_all)) ?_
            refine run_nil ?_
            refine aend_then ?_
            refine awp_cond rfl (fun hb5 => ?_) (fun hb5 => ?_)
            · skip
              exfalso; rcases Decidable.em (w1 = 0) with k1 | k1 <;> rcases Decidable.em (w2 = 0) with k2 | k2 <;> first | (simp [k1, k2] at hb5; done) | (simp [k1, k2, hz2 k2] at hb5; done) | (simp [k1, k2, hz1 k1] at hb5; done) | (simp [k1, k2, hz1 k1, hz2 k2] at hb5; done)
            · skip
              refine awp_skip ?_
              refine aend_then ?_
              refine awp_seq ?_
              refine awp_region ?_
              refine sq rfl rfl hn rfl (q_move rfl rfl) ?_
              refine sq rfl rfl hn rfl (q_neq rfl rfl rfl) ?_
              refine sq rfl rfl hn rfl (q_move rfl rfl) ?_
              refine stepG [] (guard_some rfl rfl rfl) rfl (nb hn rfl) (fun hc => trivial) (fun hc => q_move rfl rfl) ?_
              refine stepG [] (guard_some rfl rfl rfl) rfl (nb hn rfl) (fun hc => trivial) (fun hc => q_loadAd rfl rfl (id := 4) rfl Try.underlying26 rfl sz26 rfl rfl sees0) ?_
              refine stepG [] (guard_some rfl rfl rfl) rfl (nb hn rfl) (fun hc => trivial) (fun hc => q_move rfl rfl) ?_
              refine stepG [] (guard_some rfl rfl rfl) rfl (nb hn rfl) (fun hc => trivial) (fun hc => q_move rfl rfl) ?_
              refine stepG [] (guard_some rfl rfl rfl) rfl (nb hn rfl) (fun hc => trivial) (fun hc => q_move rfl rfl) ?_
              refine stepW (s_call [(118, _), (119, _), (120, _), (121, _)] (fun hc => refHolders_ok r (allDays r) s day v (all_len r v) (all_le r v) (hg1 (guard0 (Bool.and_eq_true_iff.1 hc).2)).1 (hg1 (guard0 (Bool.and_eq_true_iff.1 hc).2)).2.1) rfl (guard_some rfl rfl rfl) rfl (nb hn rfl) (fun hc => ⟨⟨_, rfl, hc⟩, ⟨_, rfl, hc⟩, ⟨_, rfl, hc⟩, ⟨_, rfl, hc⟩, trivial⟩) rfl rfl (.refl _)) fun _ => ?_
              refine stepW (s_call [(117, _), (122, _)] (fun hc => Same_ok _ _) rfl (guard_some rfl rfl rfl) rfl (nb hn rfl) (fun hc => ⟨⟨_, rfl, hc⟩, ⟨_, rfl, hc⟩, trivial⟩) rfl rfl (.refl _)) fun _ => ?_
              refine sq rfl rfl hn rfl (q_or rfl rfl rfl (by intro hB; first | (rw [hB]; rfl) | (rw [hB, hc]; rfl) | simp_all)) ?_
              refine sq rfl rfl hn rfl (q_move rfl rfl) ?_
              refine stepG [] (guard_some rfl rfl rfl) rfl (nb hn rfl) (fun hc => trivial) (fun hc => q_move rfl rfl) ?_
              refine stepG [(126, _)] (guard_some rfl rfl rfl) rfl (nb hn rfl) (fun hc => ⟨⟨_, rfl, hc⟩, trivial⟩) (fun hc => q_neq rfl rfl rfl) ?_
              refine stepG [(127, _)] (guard_some rfl rfl rfl) rfl (nb hn rfl) (fun hc => ⟨⟨_, rfl, hc⟩, trivial⟩) (fun hc => q_move rfl rfl) ?_
              refine stepG [] (guard_some rfl rfl rfl) rfl (nb hn rfl) (fun hc => trivial) (fun hc => q_move rfl rfl) ?_
              refine stepG [] (guard_some rfl rfl rfl) rfl (nb hn rfl) (fun hc => trivial) (fun hc => q_loadAd rfl rfl (id := 4) rfl Try.underlying26 rfl sz26 rfl rfl sees0) ?_
              refine stepG [] (guard_some rfl rfl rfl) rfl (nb hn rfl) (fun hc => trivial) (fun hc => q_move rfl rfl) ?_
              refine stepG [] (guard_some rfl rfl rfl) rfl (nb hn rfl) (fun hc => trivial) (fun hc => q_move rfl rfl) ?_
              refine stepG [] (guard_some rfl rfl rfl) rfl (nb hn rfl) (fun hc => trivial) (fun hc => q_move rfl rfl) ?_
              refine stepW (s_call [(130, _), (131, _), (132, _), (133, _)] (fun hc => refSurely_ok r (allDays r) house day v (all_len r v) (all_le r v) (hg2 (guard0 (Bool.and_eq_true_iff.1 hc).2)).1) rfl (guard_some rfl rfl rfl) rfl (nb hn rfl) (fun hc => ⟨⟨_, rfl, hc⟩, ⟨_, rfl, hc⟩, ⟨_, rfl, hc⟩, ⟨_, rfl, hc⟩, trivial⟩) rfl rfl (.refl _)) fun _ => ?_
              refine stepW (s_call [(129, _), (134, _)] (fun hc => Same_ok _ _) rfl (guard_some rfl rfl rfl) rfl (nb hn rfl) (fun hc => ⟨⟨_, rfl, hc⟩, ⟨_, rfl, hc⟩, trivial⟩) rfl rfl (.refl _)) fun _ => ?_
              refine stepG [(128, _)] (guard_some rfl rfl rfl) rfl (nb hn rfl) (fun hc => ⟨⟨_, rfl, hc⟩, trivial⟩) (fun hc => q_or rfl rfl rfl (by intro hB; first | (rw [hB]; rfl) | (rw [hB, hc]; rfl) | simp_all)) ?_
              refine sq rfl rfl hn rfl (q_and rfl rfl rfl (by intro hB; first | (rw [hB]; rfl) | (rw [hB, hc]; rfl) | simp_all)) ?_
              refine sq rfl rfl hn rfl (q_move rfl rfl) ?_
              refine stepW (s_call [] (fun hc => awake_ok) rfl (guard_some rfl rfl rfl) rfl (nb hn rfl) (fun hc => trivial) rfl rfl (.refl _)) fun _ => ?_
              refine sq rfl rfl hn rfl (q_and rfl rfl rfl (by intro hB; first | (rw [hB]; rfl) | (rw [hB, hc]; rfl) | simp_all)) ?_
              refine sq rfl rfl hn rfl (q_assign rfl rfl) ?_
              refine run_nil ?_
              refine aend_then ?_
              refine awp_ret ?_
              exact ret_E (.inl rfl) () ((hands_1 rfl (.tmp rfl)).eq (by rw [or_same (fun k => (hg1 k).2.2), or_same (fun k => (hg2 k).2)]; rfl)) trivial

theorem SheetCounts_eff (r : Reg) (a b day : Int) : EffAt Try.prog 4 [.d (regD r), .d (.int .i64 a), .d (.int .i64 b), .d (.int .i64 day)] [] (X := Unit) (fun _ => .d (.bool true)) (fun _ => []) := by
  refine EffAt.of_awp Try.func4 rfl (by kernel_rfl) rfl fun Γ hn => ?_
  refine awp_seq ?_
  refine awp_region ?_
  refine stepW (s_box 4 rfl rfl rfl (nb hn rfl) rfl rfl) fun b4 => ?_
  refine sq rfl rfl hn rfl (q_assign rfl rfl) ?_
  refine run_nil ?_
  refine aend_then ?_
  refine awp_seq ?_
  refine awp_seq ?_
  refine awp_region ?_
  refine sq rfl rfl hn rfl (q_loadAd rfl rfl (id := 4) rfl Try.underlying26 rfl sz26 rfl rfl sees0) ?_
  refine stepW (s_call [] (fun _ => few_ok r 800) rfl (guard_none rfl) rfl (nb hn rfl) (fun _ => trivial) rfl rfl (.refl _)) fun _ => ?_
  refine sq rfl rfl hn rfl (q_not rfl rfl) ?_
  refine run_nil ?_
  refine aend_then ?_
  refine awp_cond rfl (fun hb0 => ?_) (fun hb0 => ?_)
  · skip
    refine awp_seq ?_
    refine awp_region ?_
    refine stepW (s_call [] (fun _ => awake_ok) rfl (guard_none rfl) rfl (nb hn rfl) (fun _ => trivial) rfl rfl (.refl _)) fun _ => ?_
    refine sq rfl rfl hn rfl (q_assign rfl rfl) ?_
    refine run_nil ?_
    refine aend_then ?_
    refine awp_ret ?_
    refine aend_then_ret ?_
    exact ret_E (.inl rfl) () (hands_1 rfl (.tmp rfl)) trivial
  · skip
    have hfew := few_f hb0
    refine awp_skip ?_
    refine aend_then ?_
    refine awp_seq ?_
    refine awp_region ?_
    refine sq rfl rfl hn rfl (q_loadAd rfl rfl (id := 4) rfl Try.underlying26 rfl sz26 rfl rfl sees0) ?_
    refine stepW (s_call [] (fun _ => Register_ok r (by omega) (by omega) (by omega)) rfl (guard_none rfl) rfl (nb hn rfl) (fun _ => trivial) rfl rfl (.refl _)) fun _ => ?_
    refine sq rfl rfl hn rfl (q_move rfl rfl) ?_
    refine sq rfl rfl hn rfl (q_move rfl rfl) ?_
    refine stepW (s_callE (InHand_eff r a day) rfl rfl rfl (nb hn rfl) (.d rfl) rfl (.refl _) trivial (fun _ => rfl) (fun _ _ => trivial)) fun x1 => ?_
    refine sq rfl rfl hn rfl (q_move rfl rfl) ?_
    refine sq rfl rfl hn rfl (q_extractd rfl rfl rfl) ?_
    refine sq rfl rfl hn rfl (q_extractd rfl rfl rfl) ?_
    refine stepW (s_alloc 9 rfl rfl rfl (nb hn rfl) zr45 rfl rfl) fun b9 => ?_
    refine stepW (s_store rfl rfl rfl rfl rfl rfl (id := 9) rfl sz45 rfl (Nat.le_of_ble_eq_true rfl) rfl trivial) fun _ => ?_
    refine sq rfl rfl hn rfl (q_assign rfl rfl) ?_
    refine run_nil ?_
    refine aend_then ?_
    refine awp_seq ?_
    refine awp_region ?_
    refine sq rfl rfl hn rfl (q_loadAd rfl rfl (id := 4) rfl Try.underlying26 rfl sz26 rfl rfl sees0) ?_
    refine stepW (s_call [] (fun _ => Register_ok r (by omega) (by omega) (by omega)) rfl (guard_none rfl) rfl (nb hn rfl) (fun _ => trivial) rfl rfl (.refl _)) fun _ => ?_
    refine sq rfl rfl hn rfl (q_move rfl rfl) ?_
    refine sq rfl rfl hn rfl (q_move rfl rfl) ?_
    refine sq rfl rfl hn rfl (q_move rfl rfl) ?_
    refine stepW (s_callE (Owed_eff r a b day) rfl rfl rfl (nb hn rfl) (.d rfl) rfl (.refl _) trivial (fun _ => rfl) (fun _ _ => trivial)) fun x2 => ?_
    refine sq rfl rfl hn rfl (q_move rfl rfl) ?_
    refine sq rfl rfl hn rfl (q_extractd rfl rfl rfl) ?_
    refine sq rfl rfl hn rfl (q_extractd rfl rfl rfl) ?_
    refine stepW (s_alloc 11 rfl rfl rfl (nb hn rfl) zr45 rfl rfl) fun b11 => ?_
    refine stepW (s_store rfl rfl rfl rfl rfl rfl (id := 11) rfl sz45 rfl (Nat.le_of_ble_eq_true rfl) rfl trivial) fun _ => ?_
    refine sq rfl rfl hn rfl (q_assign rfl rfl) ?_
    refine run_nil ?_
    refine aend_then ?_
    refine awp_seq ?_
    refine awp_seq ?_
    refine awp_region ?_
    refine sq rfl rfl hn rfl (q_loadAd rfl rfl (id := 4) rfl Try.underlying26 rfl sz26 rfl rfl sees0) ?_
    refine stepW (s_call [] (fun _ => fault_ok r) rfl (guard_none rfl) rfl (nb hn rfl) (fun _ => trivial) rfl rfl (.refl _)) fun _ => ?_
    refine sq rfl rfl hn rfl (q_assign rfl rfl) ?_
    refine run_nil ?_
    refine aend_then ?_
    refine awp_seq ?_
    refine awp_region ?_
    refine sq rfl rfl hn rfl (q_move rfl rfl) ?_
    refine sq rfl rfl hn rfl (q_neq rfl rfl rfl) ?_
    refine run_nil ?_
    refine aend_then ?_
    refine awp_cond rfl (fun hb1 => ?_) (fun hb1 => ?_)
    · skip
      have hc0 : checkE r ≠ 0 := by simpa using hb1
      obtain ⟨ho1, he1⟩ := ask_bad0 hc0 x1.2
      obtain ⟨ho2, he2⟩ := ask_bad0 hc0 x2.2
      rw [ho1, ho2, he1, he2, show heldR r a [] = (0, 0) from rfl, show owedR r a b [] = (0, 0) from rfl]
      refine awp_seq ?_
      refine awp_region ?_
      refine sq rfl rfl hn rfl (q_move rfl rfl) ?_
      refine sq rfl rfl hn rfl (q_move rfl rfl) ?_
      refine sq rfl rfl hn rfl (q_eql rfl rfl rfl) ?_
      refine sq rfl rfl hn rfl (q_move rfl rfl) ?_
      refine stepG [] (guard_some rfl rfl rfl) rfl (nb hn rfl) (fun hc => trivial) (fun hc => q_move rfl rfl) ?_
      refine stepG [] (guard_some rfl rfl rfl) rfl (nb hn rfl) (fun hc => trivial) (fun hc => q_move rfl rfl) ?_
      refine stepG [(48, _), (49, _)] (guard_some rfl rfl rfl) rfl (nb hn rfl) (fun hc => ⟨⟨_, rfl, hc⟩, ⟨_, rfl, hc⟩, trivial⟩) (fun hc => q_eql rfl rfl rfl) ?_
      refine sq rfl rfl hn rfl (q_and rfl rfl rfl (by intro hB; first | (rw [hB]; rfl) | (rw [hB, hc]; rfl) | simp_all)) ?_
      refine sq rfl rfl hn rfl (q_move rfl rfl) ?_
      refine stepG [] (guard_some rfl rfl rfl) rfl (nb hn rfl) (fun hc => trivial) (fun hc => q_loadAd rfl rfl (id := 9) rfl Try.underlying45 rfl sz45 rfl rfl sees0) ?_
      refine stepG [] (guard_some rfl rfl rfl) rfl (nb hn rfl) (fun hc => trivial) (fun hc => q_buildd rfl bt45 rfl rfl rfl rfl rfl) ?_
      refine stepG [(53, _), (54, _)] (guard_some rfl rfl rfl) rfl (nb hn rfl) (fun hc => ⟨⟨_, rfl, hc⟩, ⟨_, rfl, hc⟩, trivial⟩) (fun hc => q_eql45 rfl rfl rfl) ?_
      refine sq rfl rfl hn rfl (q_and rfl rfl rfl (by intro hB; first | (rw [hB]; rfl) | (rw [hB, hc]; rfl) | simp_all)) ?_
      refine sq rfl rfl hn rfl (q_move rfl rfl) ?_
      refine stepG [] (guard_some rfl rfl rfl) rfl (nb hn rfl) (fun hc => trivial) (fun hc => q_loadAd rfl rfl (id := 11) rfl Try.underlying45 rfl sz45 rfl rfl sees0) ?_
      refine stepG [] (guard_some rfl rfl rfl) rfl (nb hn rfl) (fun hc => trivial) (fun hc => q_buildd rfl bt45 rfl rfl rfl rfl rfl) ?_
      refine stepG [(58, _), (59, _)] (guard_some rfl rfl rfl) rfl (nb hn rfl) (fun hc => ⟨⟨_, rfl, hc⟩, ⟨_, rfl, hc⟩, trivial⟩) (fun hc => q_eql45 rfl rfl rfl) ?_
      refine sq rfl rfl hn rfl (q_and rfl rfl rfl (by intro hB; first | (rw [hB]; rfl) | (rw [hB, hc]; rfl) | simp_all)) ?_
      refine sq rfl rfl hn rfl (q_move rfl rfl) ?_
      refine stepW (s_call [] (fun hc => awake_ok) rfl (guard_some rfl rfl rfl) rfl (nb hn rfl) (fun hc => trivial) rfl rfl (.refl _)) fun _ => ?_
      refine sq rfl rfl hn rfl (q_and rfl rfl rfl (by intro hB; first | (rw [hB]; rfl) | (rw [hB, hc]; rfl) | simp_all)) ?_
      refine sq rfl rfl hn rfl (q_assign rfl rfl) ?_
      refine run_nil ?_
      refine aend_then ?_
      refine awp_ret ?_
      refine aend_then_ret ?_
      exact ret_E (.inl rfl) () ((hands_1 rfl (.tmp rfl)).eq (by simp)) trivial
    · skip
      have hc0 : checkE r = 0 := by simpa using hb1
      have v := valid_of hc0
      have hv4 := v.s4
      have hvh := v.h4
      have hv1 := v.h1
      obtain ⟨he1, hz1, hg1⟩ := held_full v x1
      obtain ⟨he2, hz2, hg2⟩ := owed_full v x2
      have hba := houseB_eq (n := a) v.h1 v.h4
      have hbb := houseB_eq (n := b) v.h1 v.h4
      refine awp_skip ?_
      refine aend_then ?_
      refine awp_seq ?_
      refine awp_region ?_
      refine sq rfl rfl hn rfl (q_loadAd rfl rfl (id := 4) rfl Try.underlying26 rfl sz26 rfl rfl sees0) ?_
      refine stepW (s_call [] (fun _ => All_ok r v) rfl (guard_none rfl) rfl (nb hn rfl) (fun _ => trivial) rfl rfl (.refl _)) fun _ => ?_
      refine sq rfl rfl hn rfl (q_assign rfl rfl) ?_
      refine run_nil ?_
      refine aend_then ?_
      refine awp_seq ?_
      refine awp_region ?_
      refine sq rfl rfl hn rfl (q_assign rfl rfl) ?_
      refine sq rfl rfl hn rfl (q_assign rfl rfl) ?_
      refine run_nil ?_
      refine aend_then ?_
      refine awp_seq ?_
      refine awp_region ?_
      refine stepW (s_alloc 17 rfl rfl rfl (nb hn rfl) zr49 rfl rfl) fun b17 => ?_
      refine stepW (s_alloc 18 rfl rfl rfl (nb hn rfl) zr49 rfl rfl) fun b18 => ?_
      refine run_nil ?_
      refine aend_then ?_
      refine awp_seq ?_
      refine awp_seq ?_
      refine awp_region ?_
      refine sq rfl rfl hn rfl (q_move rfl rfl) ?_
      refine sq rfl rfl hn rfl (q_len rfl rfl Try.underlying38) ?_
      refine sq rfl rfl hn rfl (q_eql rfl rfl rfl) ?_
      refine run_nil ?_
      refine aend_then ?_
      refine awp_join_on (e := .normal) (ι := {x : Int // x = if allDays r = [] then 9 else 0}) (fun x => [(15, true, .d (.int .i64 x.1)), (16, true, .d (.int .i64 x.1))]) (fun x => []) (fun hJ2 => ?_) ?_
      · skip
        refine awp_cond rfl (fun hb2 => ?_) (fun hb2 => ?_)
        · skip
          refine awp_region ?_
          refine sq rfl rfl hn rfl (q_assign rfl rfl) ?_
          refine sq rfl rfl hn rfl (q_assign rfl rfl) ?_
          refine run_nil ?_
          exact aend_join_on hJ2 ⟨9, by rw [if_pos]; simpa using hb2⟩ ⟨.inl rfl, .inl rfl, trivial⟩ trivial (by repeat (first | exact kr _ | refine kc rfl ?_)) (by repeat (first | exact kr _ | refine kc rfl ?_))
        · skip
          refine awp_skip ?_
          exact aend_join_on hJ2 ⟨0, by rw [if_neg]; simpa using hb2⟩ ⟨.inl rfl, .inl rfl, trivial⟩ trivial (by repeat (first | exact kr _ | refine kc rfl ?_)) (by repeat (first | exact kr _ | refine kc rfl ?_))
      · rintro ⟨w0, hw0⟩
        dsimp only
        refine aend_then ?_
        refine awp_seq ?_
        refine awp_seq ?_
        refine awp_region ?_
        refine sq rfl rfl hn rfl (q_move rfl rfl) ?_
        refine sq rfl rfl hn rfl (q_fieldAddr rfl rfl Try.underlying26 rfl sz3) ?_
        refine sq rfl rfl hn rfl (q_load rfl rfl (id := 4) rfl Try.underlying3 rfl rfl sees0) ?_
        refine sq rfl rfl hn rfl (q_sub rfl rfl rfl (r := r.houses - 1) (i64w (by omega) rfl)) ?_
        refine stepW (s_call [] (fun _ => In_ok _ _ _) rfl (guard_none rfl) rfl (nb hn rfl) (fun _ => trivial) rfl rfl (.refl _)) fun _ => ?_
        refine sq rfl rfl hn rfl (q_not rfl rfl) ?_
        refine sq rfl rfl hn rfl (q_move rfl rfl) ?_
        refine stepG [] (guard_some rfl rfl rfl) rfl (nb hn rfl) (fun hc => trivial) (fun hc => q_move rfl rfl) ?_
        refine stepW (s_call [(77, _)] (fun hc => In_ok _ _ _) rfl (guard_some rfl rfl rfl) rfl (nb hn rfl) (fun hc => ⟨⟨_, rfl, hc⟩, trivial⟩) rfl rfl (.refl _)) fun _ => ?_
        refine stepG [(78, _)] (guard_some rfl rfl rfl) rfl (nb hn rfl) (fun hc => ⟨⟨_, rfl, hc⟩, trivial⟩) (fun hc => q_not rfl rfl) ?_
        refine sq rfl rfl hn rfl (q_or rfl rfl rfl (by intro hB; first | (rw [hB]; rfl) | (rw [hB, hc]; rfl) | simp_all)) ?_
        refine run_nil ?_
        refine aend_then ?_
        refine awp_join_on (e := .normal) (ι := {x : Int // x = wantE r (houseB r a) day}) (fun x => [(15, true, .d (.int .i64 x.1)), (16, true, .d (.int .i64 x.1))]) (fun x => []) (fun hJ3 => ?_) ?_
        · skip
          refine awp_cond rfl (fun hb3 => ?_) (fun hb3 => ?_)
          · skip
            refine awp_region ?_
            refine sq rfl rfl hn rfl (q_assign rfl rfl) ?_
            refine sq rfl rfl hn rfl (q_assign rfl rfl) ?_
            refine run_nil ?_
            exact aend_join_on hJ3 ⟨2, by rw [wantE, if_neg]; intro hh; rw [hba] at hh; simp [dayB] at hh; simp at hb3; omega⟩ ⟨.inl rfl, .inl rfl, trivial⟩ trivial (by repeat (first | exact kr _ | refine kc rfl ?_)) (by repeat (first | exact kr _ | refine kc rfl ?_))
          · skip
            refine awp_skip ?_
            exact aend_join_on hJ3 ⟨w0, by rw [wantE, if_pos]; exact hw0; rw [hba]; simp [dayB]; simp at hb3; omega⟩ ⟨.inl rfl, .inl rfl, trivial⟩ trivial (by repeat (first | exact kr _ | refine kc rfl ?_)) (by repeat (first | exact kr _ | refine kc rfl ?_))
        · rintro ⟨w1, hw1⟩
          dsimp only
          refine aend_then ?_
          refine awp_seq ?_
          refine awp_seq ?_
          refine awp_region ?_
          refine sq rfl rfl hn rfl (q_move rfl rfl) ?_
          refine sq rfl rfl hn rfl (q_fieldAddr rfl rfl Try.underlying26 rfl sz3) ?_
          refine sq rfl rfl hn rfl (q_load rfl rfl (id := 4) rfl Try.underlying3 rfl rfl sees0) ?_
          refine sq rfl rfl hn rfl (q_sub rfl rfl rfl (r := r.houses - 1) (i64w (by omega) rfl)) ?_
          refine stepW (s_call [] (fun _ => In_ok _ _ _) rfl (guard_none rfl) rfl (nb hn rfl) (fun _ => trivial) rfl rfl (.refl _)) fun _ => ?_
          refine sq rfl rfl hn rfl (q_not rfl rfl) ?_
          refine run_nil ?_
          refine aend_then ?_
          refine awp_join_on (e := .normal) (ι := {x : Int // x = wantE r (houseB r a && houseB r b) day}) (fun x => [(16, true, .d (.int .i64 x.1))]) (fun x => []) (fun hJ4 => ?_) ?_
          · skip
            refine awp_cond rfl (fun hb4 => ?_) (fun hb4 => ?_)
            · skip
              refine awp_region ?_
              refine sq rfl rfl hn rfl (q_assign rfl rfl) ?_
              refine run_nil ?_
              exact aend_join_on hJ4 ⟨2, by rw [wantE, if_neg]; intro hh; rw [hbb] at hh; simp [dayB] at hh; simp at hb4; omega⟩ ⟨.inl rfl, trivial⟩ trivial (by repeat (first | exact kr _ | refine kc rfl ?_)) (by repeat (first | exact kr _ | refine kc rfl ?_))
            · skip
              refine awp_skip ?_
              exact aend_join_on hJ4 ⟨w1, by rw [show houseB r b = true by rw [hbb]; simp; simp at hb4; omega, Bool.and_true]; exact hw1⟩ ⟨.inl rfl, trivial⟩ trivial (by repeat (first | exact kr _ | refine kc rfl ?_)) (by repeat (first | exact kr _ | refine kc rfl ?_))
          · rintro ⟨w2, hw2⟩
            dsimp only
            refine aend_then ?_
            refine awp_seq ?_
            refine awp_seq ?_
            rw [← hw1] at he1
            rw [← hw2] at he2
            rw [he1, he2]
            rw [he1] at hz1 hg1
            rw [he2] at hz2 hg2
            refine awp_region ?_
            refine sq rfl rfl hn rfl (q_move rfl rfl) ?_
            refine sq rfl rfl hn rfl (q_eql rfl rfl rfl) ?_
            refine run_nil ?_
            refine aend_then ?_
            refine awp_join_on (e := .normal) (ι := {p : Int × Int // heldR r a x1.1.1 = p}) (fun x => anys [89, 90, 91, 92, 93]) (fun x => [(17, .box b17 49 [.d (.int .i64 x.1.1), .d (.int .i64 x.1.2)])]) (fun hJ5 => ?_) ?_
            · skip
              refine awp_cond rfl (fun hb5 => ?_) (fun hb5 => ?_)
              · skip
                have k1 : w1 = 0 := by simpa using hb5
                refine awp_region ?_
                refine sq rfl rfl hn rfl (q_loadAd rfl rfl (id := 4) rfl Try.underlying26 rfl sz26 rfl rfl sees0) ?_
                refine sq rfl rfl hn rfl (q_move rfl rfl) ?_
                refine sq rfl rfl hn rfl (q_move rfl rfl) ?_
                refine sq rfl rfl hn rfl (q_move rfl rfl) ?_
                refine stepW (s_call [] (fun _ => refInHand_ok r (allDays r) a day v (all_len r v) (all_le r v) (hg1 k1).1) rfl (guard_none rfl) rfl (nb hn rfl) (fun _ => trivial) rfl rfl (.refl _)) fun _ => ?_
                refine stepW (s_store rfl rfl rfl rfl rfl rfl (id := 17) rfl sz49 rfl (Nat.le_of_ble_eq_true rfl) rfl trivial) fun _ => ?_
                refine run_nil ?_
                exact aend_join_on hJ5 ⟨_, (hg1 k1).2⟩ (holdT_anys _) ⟨.inl rfl, trivial⟩ (by repeat (first | exact kr _ | refine kc rfl ?_)) (by repeat (first | exact kr _ | refine kc rfl ?_))
              · skip
                have k1 : w1 ≠ 0 := by simpa using hb5
                refine awp_skip ?_
                exact aend_join_on hJ5 ⟨(0, 0), hz1 k1⟩ (holdT_anys _) ⟨.inl rfl, trivial⟩ (by repeat (first | exact kr _ | refine kc rfl ?_)) (by repeat (first | exact kr _ | refine kc rfl ?_))
            · rintro ⟨p1, hp1⟩
              dsimp only
              refine aend_then ?_
              refine awp_seq ?_
              refine awp_seq ?_
              refine awp_region ?_
              refine sq rfl rfl hn rfl (q_move rfl rfl) ?_
              refine sq rfl rfl hn rfl (q_eql rfl rfl rfl) ?_
              refine run_nil ?_
              refine aend_then ?_
              refine awp_join_on (e := .normal) (ι := {p : Int × Int // owedR r a b x2.1.1 = p}) (fun x => anys [96, 97, 98, 99, 100]) (fun x => [(18, .box b18 49 [.d (.int .i64 x.1.1), .d (.int .i64 x.1.2)])]) (fun hJ6 => ?_) ?_
              · skip
                refine awp_cond rfl (fun hb6 => ?_) (fun hb6 => ?_)
                · skip
                  have k2 : w2 = 0 := by simpa using hb6
                  refine awp_region ?_
                  refine sq rfl rfl hn rfl (q_move rfl rfl) ?_
                  refine sq rfl rfl hn rfl (q_move rfl rfl) ?_
                  refine sq rfl rfl hn rfl (q_move rfl rfl) ?_
                  refine sq rfl rfl hn rfl (q_move rfl rfl) ?_
                  refine stepW (s_call [] (fun _ => refOwed_ok (allDays r) a b day (all_len r v) (all_le r v) (hg2 k2).1 (hg2 k2).2.1 (hg2 k2).2.2.1) rfl (guard_none rfl) rfl (nb hn rfl) (fun _ => trivial) rfl rfl (.refl _)) fun _ => ?_
                  refine stepW (s_store rfl rfl rfl rfl rfl rfl (id := 18) rfl sz49 rfl (Nat.le_of_ble_eq_true rfl) rfl trivial) fun _ => ?_
                  refine run_nil ?_
                  exact aend_join_on hJ6 ⟨_, (hg2 k2).2.2.2⟩ (holdT_anys _) ⟨.inl rfl, trivial⟩ (by repeat (first | exact kr _ | refine kc rfl ?_)) (by repeat (first | exact kr _ | refine kc rfl ?_))
                · skip
                  have k2 : w2 ≠ 0 := by simpa using hb6
                  refine awp_skip ?_
                  exact aend_join_on hJ6 ⟨(0, 0), hz2 k2⟩ (holdT_anys _) ⟨.inl rfl, trivial⟩ (by repeat (first | exact kr _ | refine kc rfl ?_)) (by repeat (first | exact kr _ | refine kc rfl ?_))
              · rintro ⟨p2, hp2⟩
                dsimp only
                refine aend_then ?_
                refine awp_seq ?_
                refine awp_region ?_
                refine sq rfl rfl hn rfl (q_move rfl rfl) ?_
                refine sq rfl rfl hn rfl (q_move rfl rfl) ?_
                refine sq rfl rfl hn rfl (q_eql rfl rfl rfl) ?_
                refine sq rfl rfl hn rfl (q_move rfl rfl) ?_
                refine stepG [] (guard_some rfl rfl rfl) rfl (nb hn rfl) (fun hc => trivial) (fun hc => q_move rfl rfl) ?_
                refine stepG [] (guard_some rfl rfl rfl) rfl (nb hn rfl) (fun hc => trivial) (fun hc => q_move rfl rfl) ?_
                refine stepG [(105, _), (106, _)] (guard_some rfl rfl rfl) rfl (nb hn rfl) (fun hc => ⟨⟨_, rfl, hc⟩, ⟨_, rfl, hc⟩, trivial⟩) (fun hc => q_eql rfl rfl rfl) ?_
                refine sq rfl rfl hn rfl (q_and rfl rfl rfl (by intro hB; first | (rw [hB]; rfl) | (rw [hB, hc]; rfl) | simp_all)) ?_
                refine sq rfl rfl hn rfl (q_move rfl rfl) ?_
                refine stepG [] (guard_some rfl rfl rfl) rfl (nb hn rfl) (fun hc => trivial) (fun hc => q_loadAd rfl rfl (id := 9) rfl Try.underlying45 rfl sz45 rfl rfl sees0) ?_
                refine stepG [] (guard_some rfl rfl rfl) rfl (nb hn rfl) (fun hc => trivial) (fun hc => q_fieldAddr rfl rfl Try.underlying49 rfl sz3) ?_
                refine stepG [(111, _)] (guard_some rfl rfl rfl) rfl (nb hn rfl) (fun hc => ⟨⟨_, rfl, hc⟩, trivial⟩) (fun hc => q_load rfl rfl (id := 17) rfl Try.underlying3 rfl rfl sees0) ?_
                refine stepG [] (guard_some rfl rfl rfl) rfl (nb hn rfl) (fun hc => trivial) (fun hc => q_fieldAddr rfl rfl Try.underlying49 rfl sz3) ?_
                refine stepG [(113, _)] (guard_some rfl rfl rfl) rfl (nb hn rfl) (fun hc => ⟨⟨_, rfl, hc⟩, trivial⟩) (fun hc => q_load rfl rfl (id := 17) rfl Try.underlying3 rfl rfl sees0) ?_
                refine stepG [(112, _), (114, _)] (guard_some rfl rfl rfl) rfl (nb hn rfl) (fun hc => ⟨⟨_, rfl, hc⟩, ⟨_, rfl, hc⟩, trivial⟩) (fun hc => q_buildd rfl bt45 rfl rfl rfl rfl rfl) ?_
                refine stepG [(110, _), (115, _)] (guard_some rfl rfl rfl) rfl (nb hn rfl) (fun hc => ⟨⟨_, rfl, hc⟩, ⟨_, rfl, hc⟩, trivial⟩) (fun hc => q_eql45 rfl rfl rfl) ?_
                refine sq rfl rfl hn rfl (q_and rfl rfl rfl (by intro hB; first | (rw [hB]; rfl) | (rw [hB, hc]; rfl) | simp_all)) ?_
                refine sq rfl rfl hn rfl (q_move rfl rfl) ?_
                refine stepG [] (guard_some rfl rfl rfl) rfl (nb hn rfl) (fun hc => trivial) (fun hc => q_loadAd rfl rfl (id := 11) rfl Try.underlying45 rfl sz45 rfl rfl sees0) ?_
                refine stepG [] (guard_some rfl rfl rfl) rfl (nb hn rfl) (fun hc => trivial) (fun hc => q_fieldAddr rfl rfl Try.underlying49 rfl sz3) ?_
                refine stepG [(120, _)] (guard_some rfl rfl rfl) rfl (nb hn rfl) (fun hc => ⟨⟨_, rfl, hc⟩, trivial⟩) (fun hc => q_load rfl rfl (id := 18) rfl Try.underlying3 rfl rfl sees0) ?_
                refine stepG [] (guard_some rfl rfl rfl) rfl (nb hn rfl) (fun hc => trivial) (fun hc => q_fieldAddr rfl rfl Try.underlying49 rfl sz3) ?_
                refine stepG [(122, _)] (guard_some rfl rfl rfl) rfl (nb hn rfl) (fun hc => ⟨⟨_, rfl, hc⟩, trivial⟩) (fun hc => q_load rfl rfl (id := 18) rfl Try.underlying3 rfl rfl sees0) ?_
                refine stepG [(121, _), (123, _)] (guard_some rfl rfl rfl) rfl (nb hn rfl) (fun hc => ⟨⟨_, rfl, hc⟩, ⟨_, rfl, hc⟩, trivial⟩) (fun hc => q_buildd rfl bt45 rfl rfl rfl rfl rfl) ?_
                refine stepG [(119, _), (124, _)] (guard_some rfl rfl rfl) rfl (nb hn rfl) (fun hc => ⟨⟨_, rfl, hc⟩, ⟨_, rfl, hc⟩, trivial⟩) (fun hc => q_eql45 rfl rfl rfl) ?_
                refine sq rfl rfl hn rfl (q_and rfl rfl rfl (by intro hB; first | (rw [hB]; rfl) | (rw [hB, hc]; rfl) | simp_all)) ?_
                refine sq rfl rfl hn rfl (q_move rfl rfl) ?_
                refine stepW (s_call [] (fun hc => awake_ok) rfl (guard_some rfl rfl rfl) rfl (nb hn rfl) (fun hc => trivial) rfl rfl (.refl _)) fun _ => ?_
                refine sq rfl rfl hn rfl (q_and rfl rfl rfl (by intro hB; first | (rw [hB]; rfl) | (rw [hB, hc]; rfl) | simp_all)) ?_
                refine sq rfl rfl hn rfl (q_assign rfl rfl) ?_
                refine run_nil ?_
                refine aend_then ?_
                refine awp_ret ?_
                exact ret_E (.inl rfl) () ((hands_1 rfl (.tmp rfl)).eq (by rw [hp1, hp2]; simp)) trivial
end Go.Proofs.Ytnbmmopjkkofoaa
