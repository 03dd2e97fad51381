/-
  Walks by the rules of Base, printed by gen.py: lists of days. No condition: no statement of the seat is proved here.
-/
import Derived.Test.YtnbmmopjkkofoaaW16
namespace Go.Proofs.Ytnbmmopjkkofoaa
open Go.RowKit
set_option maxRecDepth 20000
set_option linter.all false

theorem prove_iff {r : Reg} {l : List Int} (v : Valid r) : proveB r l = isTruthB r l := by
  rw [Bool.eq_iff_iff, truth_iff v]
  unfold proveB
  rw [checkE_of v]
  constructor
  · intro h
    simp only [Bool.and_eq_true] at h
    obtain ⟨⟨⟨_, h1⟩, h2⟩, h3⟩ := h
    obtain ⟨ds, hd⟩ := Option.isSome_iff_exists.1 h2
    rw [hd] at h3
    exact ⟨ds, h1, hd, h3⟩
  · rintro ⟨ds, T⟩
    rw [T.dated, T.play]
    simp [T.seen]
theorem prove_bad {r : Reg} {l : List Int} (h : checkE r ≠ 0) : proveB r l = false := by
  unfold proveB
  have : (checkE r == 0) = false := by simpa using h
  rw [this]
  rfl
theorem plays_c1 {r : Reg} {l : List Int} : ((checkE r != checkE r) || (proveB r l != ((checkE r == 0) && isTruthB r l))) = false := by
  by_cases h : checkE r = 0
  · rw [prove_iff (valid_of h), h]; simp
  · have : (checkE r == 0) = false := by simpa using h
    rw [prove_bad h, this]; simp
theorem play_bad {r : Reg} {l : List Int} (h : checkE r ≠ 0) : playE r l = checkE r := by
  have : (checkE r != 0) = true := by simpa using h
  simp [playE, this]
theorem play_2 {r : Reg} {l : List Int} (v : Valid r) (h : datedF r.entries l = false) : playE r l = 2 := by
  simp [playE, checkE_of v, h]
theorem play_11 {r : Reg} {l : List Int} (v : Valid r) (h : datedF r.entries l = true) (k : (refPlay r l).2 = false) : playE r l = 11 := by
  rcases play_ref v h with ⟨k1, _⟩ | ⟨ds, _, _, k3, _⟩
  · simp [playE, checkE_of v, h, k1]
  · rw [k] at k3; cases k3
theorem play_0 {r : Reg} {l : List Int} (v : Valid r) (h : datedF r.entries l = true) (k : (refPlay r l).2 = true) : playE r l = 0 := by
  rcases play_ref v h with ⟨_, k2⟩ | ⟨ds, k1, _, _, _⟩
  · rw [k] at k2; cases k2
  · simp [playE, checkE_of v, h, k1]
theorem play_good {r : Reg} {l : List Int} (v : Valid r) (h : datedF r.entries l = true) (k : playE r l = 0) : ∃ ds, playDays r l = some ds ∧ ds.length = 10 ∧ ∀ n, n < 10 → Agrees r l (refPlay r l).1 n (ds.getD n 0) := by
  rcases play_ref v h with ⟨k1, _⟩ | ⟨ds, k1, k2, _, k4⟩
  · simp [playE, checkE_of v, h, k1] at k
  · exact ⟨ds, k1, k2, k4⟩
theorem plays_nil {r : Reg} {l : List Int} (h : playE r l ≠ 0) : playL r l = [] := by
  have : (playE r l == 0) = false := by simpa using h
  simp [playL, this]
theorem out_get {r : Reg} {ds : List Nat} {s : Nat} (h : s < r.start.length) : (playOut r ds)[s]? = some (ds.map fun d => (placesA r d).getD s 0) := by
  unfold playOut
  rw [List.getElem?_map, List.getElem?_range h]
  rfl
theorem thin_f {r : Reg} {b : Bool} (h : (!(thinB r) || b) = false) : r.start.length ≤ 7 ∧ r.entries.length ≤ 9 ∧ r.sights.length ≤ 7 := by
  simp only [Bool.or_eq_false_iff, Bool.not_eq_false'] at h
  exact thin_bd h.1


theorem SheetPlays_eff (r : Reg) (l : List Int) : EffAt Try.prog 11 [.d (regD r), .d (ints l)] [] (X := Unit) (fun _ => .d (.bool true)) (fun _ => []) := by
  refine EffAt.of_awp Try.func11 rfl (by kernel_rfl) rfl fun Γ hn => ?_
  refine awp_seq ?_
  refine awp_region ?_
  refine stepW (s_box 2 rfl rfl rfl (nb hn rfl) rfl rfl) fun b2 => ?_
  refine sq rfl rfl hn rfl (q_assign rfl rfl) ?_
  refine run_nil ?_
  refine aend_then ?_
  refine awp_seq ?_
  refine awp_seq ?_
  refine awp_region ?_
  refine sq rfl rfl hn rfl (q_loadAd rfl rfl (id := 2) rfl Try.underlying26 rfl sz26 rfl rfl sees0) ?_
  refine stepW (s_call [] (fun _ => Thin_ok _) rfl (guard_none rfl) rfl (nb hn rfl) (fun _ => trivial) rfl rfl (.refl _)) fun _ => ?_
  refine sq rfl rfl hn rfl (q_not rfl rfl) ?_
  refine sq rfl rfl hn rfl (q_move rfl rfl) ?_
  refine stepG [] (guard_some rfl rfl rfl) rfl (nb hn rfl) (fun hc => trivial) (fun hc => q_move rfl rfl) ?_
  refine stepG [(18, _)] (guard_some rfl rfl rfl) rfl (nb hn rfl) (fun hc => ⟨⟨_, rfl, hc⟩, trivial⟩) (fun hc => q_len rfl rfl Try.underlying22) ?_
  refine stepG [(19, _)] (guard_some rfl rfl rfl) rfl (nb hn rfl) (fun hc => ⟨⟨_, rfl, hc⟩, trivial⟩) (fun hc => q_gtr rfl rfl rfl) ?_
  refine sq rfl rfl hn rfl (q_or rfl rfl rfl (by intro hB; first | (rw [hB]; rfl) | (rw [hB, hc]; rfl) | simp_all)) ?_
  refine run_nil ?_
  refine aend_then ?_
  refine awp_cond rfl (fun hb0 => ?_) (fun hb0 => ?_)
  · skip
    refine awp_seq ?_
    refine awp_region ?_
    refine stepW (s_call [] (fun _ => awake_ok) rfl (guard_none rfl) rfl (nb hn rfl) (fun _ => trivial) rfl rfl (.refl _)) fun _ => ?_
    refine sq rfl rfl hn rfl (q_assign rfl rfl) ?_
    refine run_nil ?_
    refine aend_then ?_
    refine awp_ret ?_
    refine aend_then_ret ?_
    exact ret_E (.inl rfl) () (hands_1 rfl (.tmp rfl)) trivial
  · skip
    have hthin := thin_f hb0
    have hl9 : l.length ≤ 9 := by simp only [Bool.or_eq_false_iff, List.length_map] at hb0; have h9 := hb0.2; simp at h9; omega
    refine awp_skip ?_
    refine aend_then ?_
    refine awp_seq ?_
    refine awp_region ?_
    refine sq rfl rfl hn rfl (q_loadAd rfl rfl (id := 2) rfl Try.underlying26 rfl sz26 rfl rfl sees0) ?_
    refine stepW (s_call [] (fun _ => Register_ok r (by omega) (by omega) (by omega)) rfl (guard_none rfl) rfl (nb hn rfl) (fun _ => trivial) rfl rfl (.refl _)) fun _ => ?_
    refine stepW (s_call [] (fun _ => CheckRegister_ok _) rfl (guard_none rfl) rfl (nb hn rfl) (fun _ => trivial) rfl rfl (.refl _)) fun _ => ?_
    refine sq rfl rfl hn rfl (q_assign rfl rfl) ?_
    refine run_nil ?_
    refine aend_then ?_
    refine awp_seq ?_
    refine awp_region ?_
    refine sq rfl rfl hn rfl (q_loadAd rfl rfl (id := 2) rfl Try.underlying26 rfl sz26 rfl rfl sees0) ?_
    refine stepW (s_call [] (fun _ => Register_ok r (by omega) (by omega) (by omega)) rfl (guard_none rfl) rfl (nb hn rfl) (fun _ => trivial) rfl rfl (.refl _)) fun _ => ?_
    refine sq rfl rfl hn rfl (q_move rfl rfl) ?_
    refine stepW (s_call [] (fun _ => list_ok l (by omega)) rfl (guard_none rfl) rfl (nb hn rfl) (fun _ => trivial) rfl rfl (.refl _)) fun _ => ?_
    refine stepW (s_call [] (fun _ => Play_ok r l) rfl (guard_none rfl) rfl (nb hn rfl) (fun _ => trivial) rfl rfl (.refl _)) fun _ => ?_
    refine sq rfl rfl hn rfl (q_move rfl rfl) ?_
    refine sq rfl rfl hn rfl (q_extractd rfl rfl rfl) ?_
    refine sq rfl rfl hn rfl (q_extractd rfl rfl rfl) ?_
    refine sq rfl rfl hn rfl (q_assign rfl rfl) ?_
    refine sq rfl rfl hn rfl (q_assign rfl rfl) ?_
    refine run_nil ?_
    refine aend_then ?_
    refine awp_seq ?_
    refine awp_region ?_
    refine sq rfl rfl hn rfl (q_loadAd rfl rfl (id := 2) rfl Try.underlying26 rfl sz26 rfl rfl sees0) ?_
    refine stepW (s_call [] (fun _ => Register_ok r (by omega) (by omega) (by omega)) rfl (guard_none rfl) rfl (nb hn rfl) (fun _ => trivial) rfl rfl (.refl _)) fun _ => ?_
    refine sq rfl rfl hn rfl (q_move rfl rfl) ?_
    refine stepW (s_call [] (fun _ => list_ok l (by omega)) rfl (guard_none rfl) rfl (nb hn rfl) (fun _ => trivial) rfl rfl (.refl _)) fun _ => ?_
    refine stepW (s_call [] (fun _ => ProveTruth_ok r l) rfl (guard_none rfl) rfl (nb hn rfl) (fun _ => trivial) rfl rfl (.refl _)) fun _ => ?_
    refine sq rfl rfl hn rfl (q_assign rfl rfl) ?_
    refine run_nil ?_
    refine aend_then ?_
    refine awp_seq ?_
    refine awp_region ?_
    refine sq rfl rfl hn rfl (q_loadAd rfl rfl (id := 2) rfl Try.underlying26 rfl sz26 rfl rfl sees0) ?_
    refine stepW (s_call [] (fun _ => fault_ok _) rfl (guard_none rfl) rfl (nb hn rfl) (fun _ => trivial) rfl rfl (.refl _)) fun _ => ?_
    refine sq rfl rfl hn rfl (q_assign rfl rfl) ?_
    refine run_nil ?_
    refine aend_then ?_
    refine awp_seq ?_
    refine awp_seq ?_
    refine awp_region ?_
    refine sq rfl rfl hn rfl (q_move rfl rfl) ?_
    refine sq rfl rfl hn rfl (q_move rfl rfl) ?_
    refine sq rfl rfl hn rfl (q_neq rfl rfl rfl) ?_
    refine sq rfl rfl hn rfl (q_move rfl rfl) ?_
    refine stepG [] (guard_some rfl rfl rfl) rfl (nb hn rfl) (fun hc => trivial) (fun hc => q_move rfl rfl) ?_
    refine stepG [] (guard_some rfl rfl rfl) rfl (nb hn rfl) (fun hc => trivial) (fun hc => q_move rfl rfl) ?_
    refine stepG [(46, _)] (guard_some rfl rfl rfl) rfl (nb hn rfl) (fun hc => ⟨⟨_, rfl, hc⟩, trivial⟩) (fun hc => q_eql rfl rfl rfl) ?_
    refine stepG [(47, _)] (guard_some rfl rfl rfl) rfl (nb hn rfl) (fun hc => ⟨⟨_, rfl, hc⟩, trivial⟩) (fun hc => q_move rfl rfl) ?_
    refine stepG [] (guard_some rfl rfl rfl) rfl (nb hn rfl) (fun hc => trivial) (fun hc => q_loadAd rfl rfl (id := 2) rfl Try.underlying26 rfl sz26 rfl rfl sees0) ?_
    refine stepG [] (guard_some rfl rfl rfl) rfl (nb hn rfl) (fun hc => trivial) (fun hc => q_move rfl rfl) ?_
    refine stepW (s_call [(49, _), (50, _)] (fun hc => IsTruth_ok r l (valid_of (by simp at hc; exact hc))) rfl (guard_some rfl rfl rfl) rfl (nb hn rfl) (fun hc => ⟨⟨_, rfl, hc⟩, ⟨_, rfl, hc⟩, trivial⟩) rfl rfl (.refl _)) fun _ => ?_
    refine stepG [(48, _)] (guard_some rfl rfl rfl) rfl (nb hn rfl) (fun hc => ⟨⟨_, rfl, hc⟩, trivial⟩) (fun hc => q_and rfl rfl rfl (by intro hB; first | (rw [hB]; rfl) | (rw [hB, hc]; rfl) | simp_all)) ?_
    refine stepG [(45, _), (52, _)] (guard_some rfl rfl rfl) rfl (nb hn rfl) (fun hc => ⟨⟨_, rfl, hc⟩, ⟨_, rfl, hc⟩, trivial⟩) (fun hc => q_neqB rfl rfl rfl Try.underlying4) ?_
    refine sq rfl rfl hn rfl (q_or rfl rfl rfl (by intro hB; first | (rw [hB]; rfl) | (rw [hB, hc]; rfl) | simp_all)) ?_
    refine run_nil ?_
    refine aend_then ?_
    refine awp_cond rfl (fun hb1 => ?_) (fun hb1 => ?_)
    · skip
      exact absurd hb1 (by rw [plays_c1]; simp)
    · skip
      refine awp_skip ?_
      refine aend_then ?_
      refine awp_seq ?_
      refine awp_region ?_
      refine stepW (s_alloc 10 rfl rfl rfl (nb hn rfl) zr88 (zerosT 200) (by kernel_rfl)) fun b10 => ?_
      refine run_nil ?_
      refine aend_then ?_
      refine awp_seq ?_
      refine awp_seq ?_
      refine awp_region ?_
      refine sq rfl rfl hn rfl (q_move rfl rfl) ?_
      refine sq rfl rfl hn rfl (q_eql rfl rfl rfl) ?_
      refine run_nil ?_
      refine aend_then ?_
      refine awp_join_on (e := .normal) (ι := {p : List Int × Int // p.2 = playE r l ∧ (p.2 = 0 → Valid r ∧ datedF r.entries l = true ∧ p.1 = (refPlay r l).1)}) (fun x => (9, true, .d (.int .i64 x.1.2)) :: anys [11, 57, 58, 59, 60, 62, 63, 64, 61, 65, 66, 67, 68]) (fun x => [(10, .box b10 88 (x.1.1.map intT))]) (fun hJ2 => ?_) ?_
      · skip
        refine awp_cond rfl (fun hb2 => ?_) (fun hb2 => ?_)
        · skip
          have v := valid_of (show checkE r = 0 by simpa using hb2)
          refine awp_seq ?_
          refine awp_region ?_
          refine sq rfl rfl hn rfl (q_assign rfl rfl) ?_
          refine run_nil ?_
          refine aend_then ?_
          refine awp_seq ?_
          refine awp_region ?_
          refine sq rfl rfl hn rfl (q_loadAd rfl rfl (id := 2) rfl Try.underlying26 rfl sz26 rfl rfl sees0) ?_
          refine sq rfl rfl hn rfl (q_move rfl rfl) ?_
          refine stepW (s_call [] (fun _ => IsDated_ok _ _) rfl (guard_none rfl) rfl (nb hn rfl) (fun _ => trivial) rfl rfl (.refl _)) fun _ => ?_
          refine sq rfl rfl hn rfl (q_not rfl rfl) ?_
          refine run_nil ?_
          refine aend_then ?_
          refine awp_cond rfl (fun hb3 => ?_) (fun hb3 => ?_)
          · skip
            refine awp_region ?_
            refine sq rfl rfl hn rfl (q_assign rfl rfl) ?_
            refine run_nil ?_
            exact aend_join_on hJ2 ⟨(List.replicate 200 0, 2), (play_2 v (by simpa using hb3)).symm, fun h => by cases h⟩ ⟨.inl rfl, holdT_anys _⟩ ⟨.inl rfl, trivial⟩ (by repeat (first | exact kr _ | refine kc rfl ?_)) (by repeat (first | exact kr _ | refine kc rfl ?_))
          · skip
            have hdt : datedF r.entries l = true := by simpa using hb3
            have hl5 := datedF_len hdt
            have hout := refPlay_len v l
            refine awp_seq ?_
            refine awp_region ?_
            refine sq rfl rfl hn rfl (q_loadAd rfl rfl (id := 2) rfl Try.underlying26 rfl sz26 rfl rfl sees0) ?_
            refine sq rfl rfl hn rfl (q_move rfl rfl) ?_
            refine stepW (s_call [] (fun _ => refPlay_ok r l v hl5) rfl (guard_none rfl) rfl (nb hn rfl) (fun _ => trivial) rfl rfl (.refl _)) fun _ => ?_
            refine sq rfl rfl hn rfl (q_move rfl rfl) ?_
            refine sq rfl rfl hn rfl (q_extractd rfl rfl rfl) ?_
            refine sq rfl rfl hn rfl (q_extractd rfl rfl rfl) ?_
            refine stepW (s_store rfl rfl rfl rfl rfl rfl (id := 10) rfl sz88 (cells_len hout) (Nat.le_of_ble_eq_true rfl) (store_all (by simp)) trivial) fun _ => ?_
            refine sq rfl rfl hn rfl (q_assign rfl rfl) ?_
            refine run_nil ?_
            refine aend_then ?_
            refine awp_seq ?_
            refine awp_region ?_
            refine sq rfl rfl hn rfl (q_move rfl rfl) ?_
            refine sq rfl rfl hn rfl (q_not rfl rfl) ?_
            refine run_nil ?_
            refine aend_then ?_
            refine awp_cond rfl (fun hb4 => ?_) (fun hb4 => ?_)
            · skip
              refine awp_region ?_
              refine sq rfl rfl hn rfl (q_assign rfl rfl) ?_
              refine run_nil ?_
              exact aend_join_on hJ2 ⟨((refPlay r l).1, 11), (play_11 v hdt (by simpa using hb4)).symm, fun h => by cases h⟩ ⟨.inl rfl, holdT_anys _⟩ ⟨.inl rfl, trivial⟩ (by repeat (first | exact kr _ | refine kc rfl ?_)) (by repeat (first | exact kr _ | refine kc rfl ?_))
            · skip
              refine awp_skip ?_
              exact aend_join_on hJ2 ⟨((refPlay r l).1, checkE r), (checkE_of v).trans (play_0 v hdt (by simpa using hb4)).symm, fun _ => ⟨v, hdt, rfl⟩⟩ ⟨.inl rfl, holdT_anys _⟩ ⟨.inl rfl, trivial⟩ (by repeat (first | exact kr _ | refine kc rfl ?_)) (by repeat (first | exact kr _ | refine kc rfl ?_))
        · skip
          refine awp_skip ?_
          exact aend_join_on hJ2 ⟨(List.replicate 200 0, checkE r), (play_bad (by simpa using hb2)).symm, fun h => absurd h (by simpa using hb2)⟩ ⟨.inl rfl, holdT_anys _⟩ ⟨.inl rfl, trivial⟩ (by repeat (first | exact kr _ | refine kc rfl ?_)) (by repeat (first | exact kr _ | refine kc rfl ?_))
      · rintro ⟨⟨o, w⟩, hw, hgood⟩
        dsimp only
        dsimp only at hw hgood
        refine aend_then ?_
        refine awp_seq ?_
        refine awp_seq ?_
        refine awp_region ?_
        refine sq rfl rfl hn rfl (q_move rfl rfl) ?_
        refine sq rfl rfl hn rfl (q_neq rfl rfl rfl) ?_
        refine run_nil ?_
        refine aend_then ?_
        refine awp_cond rfl (fun hb5 => ?_) (fun hb5 => ?_)
        · skip
          rw [hw]
          have hl0 := plays_nil (r := r) (l := l) (by rw [← hw]; simpa using hb5)
          rw [hl0]
          refine awp_seq ?_
          refine awp_region ?_
          refine sq rfl rfl hn rfl (q_move rfl rfl) ?_
          refine sq rfl rfl hn rfl (q_move rfl rfl) ?_
          refine sq rfl rfl hn rfl (q_eql rfl rfl rfl) ?_
          refine sq rfl rfl hn rfl (q_move rfl rfl) ?_
          refine stepG [] (guard_some rfl rfl rfl) rfl (nb hn rfl) (fun hc => trivial) (fun hc => q_move rfl rfl) ?_
          refine stepG [(75, _)] (guard_some rfl rfl rfl) rfl (nb hn rfl) (fun hc => ⟨⟨_, rfl, hc⟩, trivial⟩) (fun hc => q_len rfl rfl Try.underlying77) ?_
          refine stepG [(76, _)] (guard_some rfl rfl rfl) rfl (nb hn rfl) (fun hc => ⟨⟨_, rfl, hc⟩, trivial⟩) (fun hc => q_eql rfl rfl rfl) ?_
          refine sq rfl rfl hn rfl (q_and rfl rfl rfl (by intro hB; first | (rw [hB]; rfl) | (rw [hB, hc]; rfl) | simp_all)) ?_
          refine sq rfl rfl hn rfl (q_move rfl rfl) ?_
          refine stepW (s_call [] (fun hc => awake_ok) rfl (guard_some rfl rfl rfl) rfl (nb hn rfl) (fun hc => trivial) rfl rfl (.refl _)) fun _ => ?_
          refine sq rfl rfl hn rfl (q_and rfl rfl rfl (by intro hB; first | (rw [hB]; rfl) | (rw [hB, hc]; rfl) | simp_all)) ?_
          refine sq rfl rfl hn rfl (q_assign rfl rfl) ?_
          refine run_nil ?_
          refine aend_then ?_
          refine awp_ret ?_
          refine aend_then_ret ?_
          exact ret_E (.inl rfl) () ((hands_1 rfl (.tmp rfl)).eq (by simp)) trivial
        · skip
          have hw0 : w = 0 := by simpa using hb5
          obtain ⟨v, hdt, rfl⟩ := hgood hw0
          obtain ⟨ds, hpd, hdl, hag⟩ := play_good v hdt (by rw [← hw, hw0])
          have hpl : playL r l = playOut r ds := by rw [playL, ← hw, hw0, hpd]; rfl
          have hpn : (playOut r ds).length = r.start.length := by simp [playOut]
          rw [← hw, hw0, hpl]
          have hs4 := v.s4
          have hout := refPlay_len v l
          refine awp_skip ?_
          refine aend_then ?_
          refine awp_seq ?_
          refine awp_seq ?_
          refine awp_region ?_
          refine sq rfl rfl hn rfl (q_move rfl rfl) ?_
          refine sq rfl rfl hn rfl (q_neq rfl rfl rfl) ?_
          refine sq rfl rfl hn rfl (q_move rfl rfl) ?_
          refine stepG [] (guard_some rfl rfl rfl) rfl (nb hn rfl) (fun hc => trivial) (fun hc => q_move rfl rfl) ?_
          refine stepG [(85, _)] (guard_some rfl rfl rfl) rfl (nb hn rfl) (fun hc => ⟨⟨_, rfl, hc⟩, trivial⟩) (fun hc => q_len rfl rfl Try.underlying77) ?_
          refine stepG [] (guard_some rfl rfl rfl) rfl (nb hn rfl) (fun hc => trivial) (fun hc => q_fieldAddr rfl rfl Try.underlying26 rfl sz22) ?_
          refine stepG [(87, _)] (guard_some rfl rfl rfl) rfl (nb hn rfl) (fun hc => ⟨⟨_, rfl, hc⟩, trivial⟩) (fun hc => q_load rfl rfl (id := 2) rfl Try.underlying22 rfl rfl sees0) ?_
          refine stepG [(88, _)] (guard_some rfl rfl rfl) rfl (nb hn rfl) (fun hc => ⟨⟨_, rfl, hc⟩, trivial⟩) (fun hc => q_len rfl rfl Try.underlying22) ?_
          refine stepG [(86, _), (89, _)] (guard_some rfl rfl rfl) rfl (nb hn rfl) (fun hc => ⟨⟨_, rfl, hc⟩, ⟨_, rfl, hc⟩, trivial⟩) (fun hc => q_neq rfl rfl rfl) ?_
          refine sq rfl rfl hn rfl (q_or rfl rfl rfl (by intro hB; first | (rw [hB]; rfl) | (rw [hB, hc]; rfl) | simp_all)) ?_
          refine run_nil ?_
          refine aend_then ?_
          refine awp_cond rfl (fun hb6 => ?_) (fun hb6 => ?_)
          · skip
            exfalso; simp only [List.length_map] at hb6; simp [hpn] at hb6
          · skip
            refine awp_skip ?_
            refine aend_then ?_
            refine awp_seq ?_
            refine awp_seq ?_
            refine awp_region ?_
            refine sq rfl rfl hn rfl (q_assign rfl rfl) ?_
            refine run_nil ?_
            refine aend_then ?_
            refine awp_block ?_
            refine awp_loop_on (ι := {s : Nat // s ≤ r.start.length}) (fun x => (12, true, .d (.int .i64 (x.1 : Nat))) :: anys [92, 93, 94, 95, 98, 99, 100, 101, 102, 103, 13, 104, 105, 108, 109, 110, 111, 112, 113, 114, 115, 116, 117, 118, 119, 120, 121, 106, 107, 96, 97]) (fun x => []) (fun x => r.start.length - x.1) ⟨0, Nat.zero_le _⟩ ⟨.inl rfl, holdT_anys _⟩ trivial ?_
            rintro ⟨s, hs⟩
            dsimp only
            refine awp_seq ?_
            refine awp_seq ?_
            refine awp_region ?_
            refine sq rfl rfl hn rfl (q_move rfl rfl) ?_
            refine sq rfl rfl hn rfl (q_move rfl rfl) ?_
            refine sq rfl rfl hn rfl (q_len rfl rfl Try.underlying77) ?_
            refine sq rfl rfl hn rfl (q_lss rfl rfl rfl) ?_
            refine run_nil ?_
            refine aend_then ?_
            refine awp_cond rfl (fun hb7 => ?_) (fun hb7 => ?_)
            · skip
              have hlt : s < r.start.length := by simp only [List.length_map] at hb7; simp [hpn] at hb7; omega
              have hrow := out_get (ds := ds) hlt
              refine awp_skip ?_
              refine aend_then ?_
              refine awp_seq ?_
              refine awp_block ?_
              refine awp_seq ?_
              refine awp_seq ?_
              refine awp_region ?_
              refine sq rfl rfl hn rfl (q_move rfl rfl) ?_
              refine sq rfl rfl hn rfl (q_move rfl rfl) ?_
              refine sq rfl rfl hn rfl (q_index rfl rfl rfl Try.underlying77 sz22 rfl (mget hrow)) ?_
              refine sq rfl rfl hn rfl (q_loadp rfl rfl Try.underlying22 rfl seesF0) ?_
              refine sq rfl rfl hn rfl (q_len rfl rfl Try.underlying22) ?_
              refine sq rfl rfl hn rfl (q_neq rfl rfl rfl) ?_
              refine run_nil ?_
              refine aend_then ?_
              refine awp_cond rfl (fun hb8 => ?_) (fun hb8 => ?_)
              · skip
                exfalso; simp [hdl] at hb8
              · skip
                refine awp_skip ?_
                refine aend_then ?_
                refine awp_seq ?_
                refine awp_region ?_
                refine sq rfl rfl hn rfl (q_assign rfl rfl) ?_
                refine run_nil ?_
                refine aend_then ?_
                refine awp_block ?_
                refine awp_loop_on (ι := {n : Nat // n ≤ 10}) (fun x => (13, true, .d (.int .i64 (x.1 : Nat))) :: anys [104, 105, 108, 109, 110, 111, 112, 113, 114, 115, 116, 117, 118, 119, 120, 121, 106, 107]) (fun x => []) (fun x => 10 - x.1) ⟨0, by omega⟩ ⟨.inl rfl, holdT_anys _⟩ trivial ?_
                rintro ⟨n, hn10⟩
                dsimp only
                refine awp_seq ?_
                refine awp_seq ?_
                refine awp_region ?_
                refine sq rfl rfl hn rfl (q_move rfl rfl) ?_
                refine sq rfl rfl hn rfl (q_lss rfl rfl rfl) ?_
                refine run_nil ?_
                refine aend_then ?_
                refine awp_cond rfl (fun hb9 => ?_) (fun hb9 => ?_)
                · skip
                  have hnl : n < 10 := by simp at hb9; omega
                  obtain ⟨d, hd⟩ := ex_get (l := ds) (i := n) (by omega)
                  have hcell := (hag n hnl).1 s (by omega)
                  rw [show ds.getD n 0 = d by rw [List.getD_eq_getElem?_getD, hd]; rfl] at hcell
                  refine awp_skip ?_
                  refine aend_then ?_
                  refine awp_seq ?_
                  refine awp_block ?_
                  refine awp_seq ?_
                  refine d_start (W := fun b => b ≠ b10) fmo ?_
                  refine d1q (i := 0) rfl (by kernel_rfl) (fun _ _ _ _ h => h) rfl rfl hn rfl (q_move rfl rfl) ?_
                  refine d1q (i := 1) rfl (by kernel_rfl) (fun _ _ _ _ h => h) rfl rfl hn rfl (q_move rfl rfl) ?_
                  refine d1q (i := 2) rfl (by kernel_rfl) (fun _ _ _ _ h => h) rfl rfl hn rfl (q_index rfl rfl rfl Try.underlying77 sz22 rfl (mget hrow)) ?_
                  refine d1q (i := 3) rfl (by kernel_rfl) (fun _ _ _ _ h => h) rfl rfl hn rfl (q_loadp rfl rfl Try.underlying22 rfl seesFA) ?_
                  refine d1q (i := 4) rfl (by kernel_rfl) (fun _ _ _ _ h => h) rfl rfl hn rfl (q_move rfl rfl) ?_
                  refine d1q (i := 5) rfl (by kernel_rfl) (fun _ _ _ _ h => h) rfl rfl hn rfl (q_index rfl rfl rfl Try.underlying22 sz3 rfl (mget (mget hd))) ?_
                  refine d1q (i := 6) rfl (by kernel_rfl) (fun _ _ _ _ h => h) rfl rfl hn rfl (q_loadp rfl rfl Try.underlying3 rfl seesFA) ?_
                  refine d1q (i := 7) rfl (by kernel_rfl) (fun _ _ _ _ h => h) rfl rfl hn rfl (q_move rfl rfl) ?_
                  refine d1q (i := 8) rfl (by kernel_rfl) (fun _ _ _ _ h => h) rfl rfl hn rfl (q_move rfl rfl) ?_
                  refine d1q (i := 9) rfl (by kernel_rfl) (fun _ _ _ _ h => h) rfl rfl hn rfl (q_fieldAddr rfl rfl Try.underlying88 rfl sz84) ?_
                  refine d1q (i := 10) rfl (by kernel_rfl) (fun _ _ _ _ h => h) rfl rfl hn rfl (q_indexA (i := n) rfl rfl rfl Try.underlying84 sz83 rfl (by omega)) ?_
                  refine d1q (i := 11) rfl (by kernel_rfl) (fun _ _ _ _ h => h) rfl rfl hn rfl (q_indexA (i := s) rfl rfl rfl Try.underlying83 sz3 rfl (by omega)) ?_
                  refine d1q (i := 12) rfl (by kernel_rfl) (fun _ _ _ _ h => h) rfl rfl hn rfl (q_load rfl rfl (id := 10) rfl Try.underlying3 rfl (at0 (by show 0 + 0 + n * 4 + s * 1 = n * 4 + s; omega) (getD_some (by omega))) (seesA (by simp))) ?_
                  refine d1q (i := 13) rfl (by kernel_rfl) (fun _ _ _ _ h => h) rfl rfl hn rfl (q_neq rfl rfl rfl) ?_
                  refine d1_of_d2 ?_
                  refine d2_done (by kernel_rfl) ?_
                  refine aend_then ?_
                  refine awp_cond rfl (fun hb10 => ?_) (fun hb10 => ?_)
                  · skip
                    exact absurd hb10 (by rw [← houseAt, hcell]; simp)
                  · skip
                    refine awp_skip ?_
                    refine aend_block ?_
                    refine aend_then ?_
                    refine awp_region ?_
                    refine sq rfl rfl hn rfl (q_move rfl rfl) ?_
                    refine sq rfl rfl hn rfl (q_add rfl rfl rfl (r := ((n + 1 : Nat) : Int)) (i64w (by omega) (by omega))) ?_
                    refine sq rfl rfl hn rfl (q_assign rfl rfl) ?_
                    refine run_nil ?_
                    exact aend_round_on ⟨n + 1, by omega⟩ ⟨.inl rfl, holdT_anys _⟩ trivial (by simp only; omega) (by repeat (first | exact kr _ | refine kc rfl ?_)) (by repeat (first | exact kr _ | refine kc rfl ?_))
                · skip
                  refine awp_exit ?_
                  refine aend_then_exit ?_
                  refine aend_then_exit ?_
                  refine aend_block_exit ?_
                  refine aend_block ?_
                  refine aend_then ?_
                  refine awp_region ?_
                  refine sq rfl rfl hn rfl (q_move rfl rfl) ?_
                  refine sq rfl rfl hn rfl (q_add rfl rfl rfl (r := ((s + 1 : Nat) : Int)) (i64w (by omega) (by omega))) ?_
                  refine sq rfl rfl hn rfl (q_assign rfl rfl) ?_
                  refine run_nil ?_
                  exact aend_round_on ⟨s + 1, by omega⟩ ⟨.inl rfl, holdT_anys _⟩ trivial (by simp only; omega) (by repeat (first | exact kr _ | refine kc rfl ?_)) (by repeat (first | exact kr _ | refine kc rfl ?_))
            · skip
              refine awp_exit ?_
              refine aend_then_exit ?_
              refine aend_then_exit ?_
              refine aend_block_exit ?_
              refine aend_then ?_
              refine awp_seq ?_
              refine awp_region ?_
              refine stepW (s_call [] (fun _ => awake_ok) rfl (guard_none rfl) rfl (nb hn rfl) (fun _ => trivial) rfl rfl (.refl _)) fun _ => ?_
              refine sq rfl rfl hn rfl (q_assign rfl rfl) ?_
              refine run_nil ?_
              refine aend_then ?_
              refine awp_ret ?_
              exact ret_E (.inl rfl) () (hands_1 rfl (.tmp rfl)) trivial
end Go.Proofs.Ytnbmmopjkkofoaa
