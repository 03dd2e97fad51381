/-
  The law SheetTruth returns true for every input, and leaves its arguments as they were: the given statement, whole. No condition.
-/
import Derived.Test.YtnbmmopjkkofoaaSheetTruthE
namespace Go.Proofs.Ytnbmmopjkkofoaa
open Go.RowKit
set_option maxRecDepth 20000
set_option linter.all false
def cells1 (l : List Int) : List TV := ((l.map intE).flatten).map .d
theorem cells1_eq (l : List Int) : cells1 l = l.map fun n => TV.d (.int .i64 n) := by
  unfold cells1
  induction l with
  | nil => rfl
  | cons x l ih => simp only [List.map_cons, List.flatten_cons, List.map_append, ih]; rfl
theorem c1_get {l : List Int} {rest : List TV} {i k : Nat} {x : Int} (h : l[i]? = some x) (hk : k = i) : (cells1 l ++ rest)[k]? = some (.d (.int .i64 x)) := by
  have hlt := (List.getElem?_eq_some_iff.1 h).1
  rw [cells1_eq, hk, List.getElem?_append_left (by simpa using hlt), List.getElem?_map, h]
  rfl
theorem c1_set {l : List Int} {rest : List TV} {i k : Nat} {x : Int} (h : i < l.length) (hk : k = i) : (cells1 l ++ rest).set k (.d (.int .i64 x)) = cells1 (l.set i x) ++ rest := by
  rw [cells1_eq, cells1_eq, hk, List.set_append_left _ _ (by simpa using h), List.map_set]
theorem c1_len (l : List Int) : (cells1 l).length = l.length := by rw [cells1_eq]; simp
theorem vec1 {l : List Int} {v : Value} (h : VecV v 1 (cells1 l)) (h0 : 0 < l.length) : ∃ b c, v = .slice (some ⟨b, 0, none⟩) l.length c ∧ l.length ≤ c ∧ c ≤ maxLen := by
  have hl := c1_len l
  rcases h with ⟨_, h⟩ | ⟨b, n, c, rfl, h1, h2, h3⟩
  · rw [h] at hl; simp at hl; omega
  · have : n = l.length := by omega
    subst this
    exact ⟨b, c, rfl, h1, h2⟩
theorem wordN_lt {l : List Nat} {i : Nat} (h : ∀ x ∈ l, x < 65536) : wordN l i < 65536 := by
  unfold wordN
  cases hb : (l.length : Int) == 0 with
  | true => simp
  | false =>
    have h0 : 0 < l.length := by simp at hb; cases l with | nil => exact (hb rfl).elim | cons _ _ => simp
    have hm := Nat.mod_lt i h0
    show l.getD (i % l.length) 0 < 65536
    rw [List.getD_eq_getElem?_getD, List.getElem?_eq_getElem hm]
    exact h _ (List.getElem_mem hm)
theorem ents_add {es : List Ent5} {e : Ent5} : es.map entE ++ [entE e] = (es ++ [e]).map entE := by simp
theorem ints_add {l : List Int} {x : Int} : l.map intE ++ [intE x] = (l ++ [x]).map intE := by simp
theorem sights_add {l : List Sight5} {x : Sight5} : l.map sightE ++ [sightE x] = (l ++ [x]).map sightE := by simp
def HapX (H : Nat) (start : List Int) : Type := {x : Reg × List Int // x.1.houses = (H : Int) ∧ x.1.start = start ∧ Valid x.1 ∧ (∃ ds, Truth x.1 x.2 ds) ∧ ∀ j, hasT (prefR x.1 j)}
theorem bt59 : BT Try.prog 59 (.agg #[(.int .i64 0), (.int .i64 0), (.int .i64 0)]) (fun i => ([(0, 1), (1, 1), (2, 1)] : List (Nat × Nat))[i]?) := bt_struct Try.underlying59 zr59 (by kernel_rfl)
theorem bt67 : BT Try.prog 67 (.agg #[(.int .i64 0), (.int .i64 0), (.int .i64 0), (.int .i64 0), (.int .i64 0), (.int .i64 0)]) (fun i => ([(0, 1), (1, 1), (2, 1), (3, 1), (4, 2)] : List (Nat × Nat))[i]?) := bt_struct Try.underlying67 zr67 (by kernel_rfl)
theorem list_vec (l : List Int) (h5 : l.length ≤ 1000000) : EffAt Try.prog 44 [.d (ints l)] [] (X := {v : Value // VecV v 1 (cells1 l)}) (fun v => .val v.1) (fun v => [(1010, vecRes 3 v.1 1 (cells1 l))]) := by
  refine EffAt.of_awp Try.func44 rfl (by kernel_rfl) rfl fun Γ hn => ?_
  refine awp_seq ?_
  refine awp_region ?_
  refine sq rfl rfl hn rfl (q_assign rfl rfl) ?_
  refine run_nil ?_
  refine aend_then ?_
  refine awp_seq ?_
  refine awp_region ?_
  refine stepW (s_buildVec 1010 rfl rfl rfl (nb hn rfl) Try.underlying22 sz3 zr3 rfl rfl (show _ = [] from by kernel_rfl) (by kernel_rfl) rfl rfl) fun b3 => ?_
  refine sq rfl rfl hn rfl (q_move rfl rfl) ?_
  refine stepW (s_appendV (id := 1010) rfl rfl rfl (nb hn rfl) elt22 zr3 rfl (vec0 b3 1) rfl rfl rfl (by simp; omega) (by simp; omega) (fun _ _ => trivial)) fun ⟨v5, hv5⟩ => ?_
  refine sq rfl rfl hn rfl (q_assign rfl rfl) ?_
  refine run_nil ?_
  refine aend_then ?_
  refine awp_ret ?_
  exact ret_E (.inl rfl) ⟨v5, hv5⟩ (hands_1 rfl (.tmp rfl)) ⟨rfl, trivial⟩
theorem Happened_eff (H : Nat) (start : List Int) (words : List Nat) (many : Nat) (v : Valid ⟨(H : Int), start, [], []⟩) (hw5 : ∀ x ∈ words, x < 65536) (hm5 : many < 256) : EffAt Try.prog 30 [.d (.int .i64 (H : Nat)), .d (ints start), .d (wordsD words), .d (.int .u8 (many : Nat))] [] (X := HapX H start) (fun x => .d (.tup [regD x.1.1, ints x.1.2])) (fun _ => []) := by
  refine EffAt.of_awp Try.func30 rfl (by kernel_rfl) rfl fun Γ hn => ?_
  have hs4 : start.length ≤ 4 := v.s4
  have hs1 : 1 ≤ start.length := v.s1
  have hH4 : (H : Int) ≤ 4 := v.h4
  have hH1 : 1 ≤ (H : Int) := v.h1
  refine awp_seq ?_
  refine awp_region ?_
  refine stepW (s_alloc 8 rfl rfl rfl (nb hn rfl) zr26 rfl rfl) fun b8 => ?_
  refine sq rfl rfl hn rfl (q_assign rfl rfl) ?_
  refine run_nil ?_
  refine aend_then ?_
  refine awp_seq ?_
  refine awp_region ?_
  refine sq rfl rfl hn rfl (q_move rfl rfl) ?_
  refine sq rfl rfl hn rfl (q_move rfl rfl) ?_
  refine stepW (s_call [] (fun _ => list_ok start (by omega)) rfl (guard_none rfl) rfl (nb hn rfl) (fun _ => trivial) rfl rfl (.refl _)) fun _ => ?_
  refine sq rfl rfl hn rfl (q_buildd rfl bt26 rfl rfl rfl rfl rfl) ?_
  refine stepW (s_alloc 10 rfl rfl rfl (nb hn rfl) zr26 rfl rfl) fun b10 => ?_
  refine stepW (s_store rfl rfl rfl rfl rfl rfl (id := 10) rfl sz26 rfl (Nat.le_of_ble_eq_true rfl) rfl trivial) fun _ => ?_
  refine run_nil ?_
  refine aend_then ?_
  refine awp_seq ?_
  refine awp_region ?_
  refine sq rfl rfl hn rfl (q_move rfl rfl) ?_
  refine stepW (s_callE (list_vec start (by omega)) rfl rfl rfl (nb hn rfl) (.d rfl) rfl (.refl _) trivial (fun _ => rfl) (fun _ _ => trivial)) fun ⟨vn, hvn⟩ => ?_
  obtain ⟨bn, cn, rfl, hcn, hcm⟩ := vec1 hvn hs1
  refine sq rfl rfl hn rfl (q_assign rfl rfl) ?_
  refine run_nil ?_
  refine aend_then ?_
  refine awp_seq ?_
  refine awp_region ?_
  refine sq rfl rfl hn rfl (q_assign rfl rfl) ?_
  refine run_nil ?_
  refine aend_then ?_
  refine awp_seq ?_
  refine awp_region ?_
  refine stepW (s_alloc 13 rfl rfl rfl (nb hn rfl) zr85 (zerosT 16) (by kernel_rfl)) fun b13 => ?_
  refine run_nil ?_
  refine aend_then ?_
  refine awp_seq ?_
  refine awp_region ?_
  refine sq rfl rfl hn rfl (q_assign rfl rfl) ?_
  refine run_nil ?_
  refine aend_then ?_
  refine awp_seq ?_
  refine awp_seq ?_
  refine gh_awp (g_nil (t := 12) (id := 12) 3 1 rfl (nb hn rfl)) ?_
  refine gh_awp (gh_nilcell (id := 10) (k := 2) 1020 67 6 rfl rfl) ?_
  refine awp_region ?_
  refine sq rfl rfl hn rfl (q_assign rfl rfl) ?_
  refine run_nil ?_
  refine aend_then ?_
  refine awp_block ?_
  refine awp_loop_on (ι := {x : (Nat × Nat) × (List Int × List Int) × (List Ent5 × List Int) × (Value × Value) // x.1.1 ≤ many % 7 ∧ x.1.2 ≤ 9 ∧ Hap (H : Int) start x.1.1 x.1.2 x.2.1.1 x.2.1.2 x.2.2.1.1 x.2.2.1.2}) (fun x => (12, true, .val x.1.2.2.2.2) :: (14, true, .d (.int .i64 (x.1.1.2 : Nat))) :: (15, true, .d (.int .i64 (x.1.1.1 : Nat))) :: anys [30, 31, 32, 33, 34, 37, 38, 39, 40, 41, 42, 43, 44, 45, 16, 17, 46, 47, 48, 49, 50, 51, 52, 53, 54, 55, 56, 57, 58, 59, 60, 61, 18, 62, 63, 64, 65, 66, 67, 68, 69, 70, 71, 72, 73, 74, 75, 76, 77, 78, 79, 81, 82, 83, 84, 85, 86, 87, 88, 89, 90, 91, 92, 93, 80, 94, 95, 96, 97, 98, 99, 100, 101, 102, 103, 104, 106, 107, 108, 105, 109, 110, 111, 112, 113, 114, 115, 116, 117, 118, 119, 120, 121, 122, 123, 124, 125, 126, 127, 128, 129, 130, 131, 132, 133, 134, 135, 136, 137, 138, 139, 140, 141, 142, 143, 144, 145, 146, 147, 148, 149, 35, 36]) (fun x => (10, .box b10 26 [.d (.int .i64 (H : Nat)), .d (ints start), .val x.1.2.2.2.1, .d .nil]) :: (1020, .row x.1.2.2.2.1 67 6 (x.1.2.2.1.1.map entE)) :: (12, .row x.1.2.2.2.2 3 1 (x.1.2.2.1.2.map intE)) :: (1010, .box bn 3 (cells1 x.1.2.1.1 ++ List.replicate ((cn - start.length) * 1) .any)) :: (13, .box b13 85 (x.1.2.1.2.map intT)) :: gones [18]) (fun x => many % 7 - x.1.1.1) ⟨((0, 0), (start, List.replicate 16 0), ([], []), .slice none 0 0, .slice none 0 0), Nat.zero_le _, by simp, Hap.start v.st⟩ ⟨.inl rfl, .inl rfl, .inl rfl, holdT_anys _⟩ ⟨.inl rfl, .inl rfl, .inl rfl, .inl rfl, .inl rfl, holdR_gones _⟩ ?_
  rintro ⟨⟨⟨i, day⟩, ⟨now, op⟩, ⟨es, ts⟩, vE, vT⟩, hi, hd9, hap⟩
  dsimp only
  dsimp only at hi hd9 hap
  refine awp_seq ?_
  refine awp_seq ?_
  refine awp_region ?_
  refine sq rfl rfl hn rfl (q_move rfl rfl) ?_
  refine sq rfl rfl hn rfl (q_move rfl rfl) ?_
  refine sq rfl rfl hn rfl (q_conv rfl rfl Try.underlying5 Try.underlying3 (r := (many : Int)) (i64w (by omega) rfl)) ?_
  refine sq rfl rfl hn rfl (q_rem rfl rfl rfl (r := ((many % 7 : Nat) : Int)) (by omega) (modN (b := 7) (by omega))) ?_
  refine sq rfl rfl hn rfl (q_lss rfl rfl rfl) ?_
  refine run_nil ?_
  refine aend_then ?_
  refine awp_cond rfl (fun hb0 => ?_) (fun hb0 => ?_)
  · skip
    have hil : i < many % 7 := by simp only [decide_eq_true_eq] at hb0; omega
    have hm7 : many % 7 ≤ 6 := by omega
    have hel := hap.el
    have htl := hap.tl
    refine awp_skip ?_
    refine aend_then ?_
    refine awp_seq ?_
    refine awp_block ?_
    refine awp_seq ?_
    refine awp_region ?_
    refine sq rfl rfl hn rfl (q_move rfl rfl) ?_
    refine sq rfl rfl hn rfl (q_move rfl rfl) ?_
    refine sq rfl rfl hn rfl (q_mul rfl rfl rfl (r := ((3 * i : Nat) : Int)) (i64w (by omega) (by omega))) ?_
    refine stepW (s_call [] (fun _ => word_ok words (3 * i) hw5) rfl (guard_none rfl) rfl (nb hn rfl) (fun _ => trivial) rfl rfl (.refl _)) fun _ => ?_
    refine sq rfl rfl hn rfl (q_move rfl rfl) ?_
    refine sq rfl rfl hn rfl (q_move rfl rfl) ?_
    refine sq rfl rfl hn rfl (q_mul rfl rfl rfl (r := ((3 * i : Nat) : Int)) (i64w (by omega) (by omega))) ?_
    refine sq rfl rfl hn rfl (q_add rfl rfl rfl (r := ((3 * i + 1 : Nat) : Int)) (i64w (by omega) (by omega))) ?_
    refine stepW (s_call [] (fun _ => word_ok words (3 * i + 1) hw5) rfl (guard_none rfl) rfl (nb hn rfl) (fun _ => trivial) rfl rfl (.refl _)) fun _ => ?_
    refine sq rfl rfl hn rfl (q_assign rfl rfl) ?_
    refine sq rfl rfl hn rfl (q_assign rfl rfl) ?_
    refine run_nil ?_
    refine aend_then ?_
    refine awp_seq ?_
    obtain ⟨w, hw⟩ : ∃ w, wordN words (3 * i) = w := ⟨_, rfl⟩
    obtain ⟨u, hu⟩ : ∃ u, wordN words (3 * i + 1) = u := ⟨_, rfl⟩
    have hwl : w < 65536 := hw ▸ wordN_lt hw5
    have hul : u < 65536 := hu ▸ wordN_lt hw5
    rw [hw, hu]
    refine awp_region ?_
    refine sq rfl rfl hn rfl (q_move rfl rfl) ?_
    refine sq rfl rfl hn rfl (q_move rfl rfl) ?_
    refine sq rfl rfl hn rfl (q_rem rfl rfl rfl (r := ((w % 3 : Nat) : Int)) (by omega) (modN (b := 3) (by omega))) ?_
    refine sq rfl rfl hn rfl (q_add rfl rfl rfl (r := ((day + w % 3 : Nat) : Int)) (i64w (by omega) (by omega))) ?_
    refine sq rfl rfl hn rfl (q_assign rfl rfl) ?_
    refine run_nil ?_
    refine aend_then ?_
    refine awp_seq ?_
    refine awp_seq ?_
    refine awp_region ?_
    refine sq rfl rfl hn rfl (q_move rfl rfl) ?_
    refine sq rfl rfl hn rfl (q_gtr rfl rfl rfl) ?_
    refine sq rfl rfl hn rfl (q_move rfl rfl) ?_
    refine stepG [] (guard_some rfl rfl rfl) rfl (nb hn rfl) (fun hc => trivial) (fun hc => q_move rfl rfl) ?_
    refine stepG [(53, _)] (guard_some rfl rfl rfl) rfl (nb hn rfl) (fun hc => ⟨⟨_, rfl, hc⟩, trivial⟩) (fun hc => q_lss rfl rfl rfl) ?_
    refine sq rfl rfl hn rfl (q_or rfl rfl rfl (by intro hB; first | (rw [hB]; rfl) | (rw [hB, hc]; rfl) | simp_all)) ?_
    refine run_nil ?_
    refine aend_then ?_
    refine awp_cond rfl (fun hb1 => ?_) (fun hb1 => ?_)
    · skip
      refine awp_exit ?_
      refine aend_then_exit ?_
      refine aend_block_exit_ne rfl ?_
      refine aend_then_exit ?_
      refine aend_then_exit ?_
      refine aend_block_exit ?_
      refine aend_then ?_
      refine awp_seq ?_
      refine awp_seq ?_
      have hi7 : i ≤ 6 := by omega
      obtain ⟨v0, ds, T, hdl, hag⟩ := hap.reg v hi7
      have hrp := truth_play v0 T
      have hout := refPlay_len v0 ts
      obtain ⟨o, ho⟩ : ∃ o, (refPlay (hapReg (H : Int) start es []) ts).1 = o := ⟨_, rfl⟩
      rw [ho] at hout hag
      refine gh_awp (gh_rowcell (id := 10) (k := 2) (rid := 1020) rfl rfl rfl) ?_
      refine awp_region ?_
      refine sq rfl rfl hn rfl (q_loadAd rfl rfl (id := 10) rfl Try.underlying26 rfl sz26 rfl rfl sees0) ?_
      refine sq rfl rfl hn rfl (q_move rfl rfl) ?_
      refine gh_run (g_row (t := 151) (id := 12) rfl rfl) ?_
      refine stepW (s_call [] (fun _ => IsDated_ok (hapReg (H : Int) start es []) ts) rfl (guard_none rfl) rfl (nb hn rfl) (fun _ => trivial) rfl rfl (by first | exact .refl _ | (repeat (first | exact .refl _ | exact .nil _ | refine .cons ?_ ?_ | refine .agg ?_ | refine .tup ?_)))) fun _ => ?_
      refine sq rfl rfl hn rfl (q_not rfl rfl) ?_
      refine run_nil ?_
      refine aend_then ?_
      refine awp_cond rfl (fun hb2 => ?_) (fun hb2 => ?_)
      · skip
        exact absurd hb2 (by rw [show datedF (hapReg (H : Int) start es []).entries ts = true from hap.da]; simp)
      · skip
        refine awp_skip ?_
        refine aend_then ?_
        refine awp_seq ?_
        refine awp_region ?_
        refine sq rfl rfl hn rfl (q_loadAd rfl rfl (id := 10) rfl Try.underlying26 rfl sz26 rfl rfl sees0) ?_
        refine sq rfl rfl hn rfl (q_move rfl rfl) ?_
        refine gh_run (g_row (t := 158) (id := 12) rfl rfl) ?_
        refine stepW (s_call [] (fun _ => (by have h6 := refPlay_ok (hapReg (H : Int) start es []) ts v0 hap.tl; rw [hrp, ho] at h6; exact h6)) rfl (guard_none rfl) rfl (nb hn rfl) (fun _ => trivial) rfl rfl (by first | exact .refl _ | (repeat (first | exact .refl _ | exact .nil _ | refine .cons ?_ ?_ | refine .agg ?_ | refine .tup ?_)))) fun _ => ?_
        refine sq rfl rfl hn rfl (q_move rfl rfl) ?_
        refine sq rfl rfl hn rfl (q_extractd rfl rfl rfl) ?_
        refine sq rfl rfl hn rfl (q_extractd rfl rfl rfl) ?_
        refine stepW (s_alloc 19 rfl rfl rfl (nb hn rfl) zr88 (zerosT 200) (by kernel_rfl)) fun b19 => ?_
        refine stepW (s_store rfl rfl rfl rfl rfl rfl (id := 19) rfl sz88 (cells_len hout) (Nat.le_of_ble_eq_true rfl) (store_all (by simp)) trivial) fun _ => ?_
        refine sq rfl rfl hn rfl (q_assign rfl rfl) ?_
        refine run_nil ?_
        refine aend_then ?_
        refine awp_seq ?_
        refine awp_seq ?_
        refine gh_awp (gh_nilcell (id := 10) (k := 3) 1021 59 3 rfl rfl) ?_
        refine awp_region ?_
        refine sq rfl rfl hn rfl (q_assign rfl rfl) ?_
        refine run_nil ?_
        refine aend_then ?_
        refine awp_block ?_
        refine awp_loop_on (ι := {x : Nat × List Sight5 × Value // x.1 ≤ wordN words 5 % 5 ∧ x.2.1.length ≤ x.1 ∧ ∀ s ∈ x.2.1, (0 ≤ s.sheet ∧ s.sheet ≤ (start.length : Int) - 1) ∧ (0 ≤ s.day ∧ s.day ≤ 9) ∧ s.house = houseAt o s.day.toNat s.sheet.toNat}) (fun x => (21, true, .d (.int .i64 (x.1.1 : Nat))) :: anys [162, 163, 164, 165, 166, 167, 168, 169, 172, 173, 174, 175, 176, 22, 177, 178, 179, 180, 181, 182, 183, 184, 23, 185, 186, 187, 188, 189, 190, 191, 192, 193, 194, 195, 196, 197, 198, 199, 170, 171]) (fun x => (10, .box b10 26 [.d (.int .i64 (H : Nat)), .d (ints start), .d (entsD es), .val x.1.2.2]) :: (1021, .row x.1.2.2 59 3 (x.1.2.1.map sightE)) :: gones [23]) (fun x => wordN words 5 % 5 - x.1.1) ⟨(0, [], .slice none 0 0), Nat.zero_le _, Nat.le_refl _, fun _ h => (by cases h)⟩ ⟨.inl rfl, holdT_anys _⟩ ⟨.inl rfl, .inl rfl, holdR_gones _⟩ ?_
        rintro ⟨⟨k, si, vS⟩, hk5, hsi, hsp⟩
        dsimp only
        dsimp only at hk5 hsi hsp
        refine awp_seq ?_
        refine awp_seq ?_
        refine awp_region ?_
        refine sq rfl rfl hn rfl (q_move rfl rfl) ?_
        refine sq rfl rfl hn rfl (q_move rfl rfl) ?_
        refine stepW (s_call [] (fun _ => word_ok words 5 hw5) rfl (guard_none rfl) rfl (nb hn rfl) (fun _ => trivial) rfl rfl (.refl _)) fun _ => ?_
        refine sq rfl rfl hn rfl (q_rem rfl rfl rfl (r := ((wordN words 5 % 5 : Nat) : Int)) (by omega) (modN (b := 5) (by omega))) ?_
        refine sq rfl rfl hn rfl (q_lss rfl rfl rfl) ?_
        refine sq rfl rfl hn rfl (q_move rfl rfl) ?_
        refine stepG [] (guard_some rfl rfl rfl) rfl (nb hn rfl) (fun hc => trivial) (fun hc => q_move rfl rfl) ?_
        refine sq rfl rfl hn rfl (q_and rfl rfl rfl (by intro hB; first | (rw [hB]; rfl) | (rw [hB, hc]; rfl) | simp_all)) ?_
        refine run_nil ?_
        refine aend_then ?_
        refine awp_cond rfl (fun hb3 => ?_) (fun hb3 => ?_)
        · skip
          have hkl : k < wordN words 5 % 5 := by simp at hb3; omega
          refine awp_skip ?_
          refine aend_then ?_
          refine awp_seq ?_
          refine awp_block ?_
          refine awp_seq ?_
          refine awp_region ?_
          refine sq rfl rfl hn rfl (q_move rfl rfl) ?_
          refine sq rfl rfl hn rfl (q_move rfl rfl) ?_
          refine sq rfl rfl hn rfl (q_mul rfl rfl rfl (r := ((3 * k : Nat) : Int)) (i64w (by omega) (by omega))) ?_
          refine sq rfl rfl hn rfl (q_add rfl rfl rfl (r := ((3 * k + 2 : Nat) : Int)) (i64w (by omega) (by omega))) ?_
          refine stepW (s_call [] (fun _ => word_ok words (3 * k + 2) hw5) rfl (guard_none rfl) rfl (nb hn rfl) (fun _ => trivial) rfl rfl (.refl _)) fun _ => ?_
          refine sq rfl rfl hn rfl (q_assign rfl rfl) ?_
          refine run_nil ?_
          refine aend_then ?_
          refine awp_seq ?_
          obtain ⟨q, hq⟩ : ∃ q, wordN words (3 * k + 2) = q := ⟨_, rfl⟩
          have hql : q < 65536 := hq ▸ wordN_lt hw5
          rw [hq]
          have hqm := Nat.mod_lt q (show 0 < start.length by omega)
          refine awp_region ?_
          refine sq rfl rfl hn rfl (q_move rfl rfl) ?_
          refine sq rfl rfl hn rfl (q_move rfl rfl) ?_
          refine sq rfl rfl hn rfl (q_len rfl rfl Try.underlying22) ?_
          refine sq rfl rfl hn rfl (q_rem rfl rfl rfl (r := ((q % start.length : Nat) : Int)) (by simp only [List.length_map]; omega) (by simp only [List.length_map]; exact modN (by omega))) ?_
          refine sq rfl rfl hn rfl (q_move rfl rfl) ?_
          refine sq rfl rfl hn rfl (q_quo rfl rfl rfl (r := ((q / 8 : Nat) : Int)) (by omega) (quoN (b := 8) (by omega) (by omega))) ?_
          refine sq rfl rfl hn rfl (q_rem rfl rfl rfl (r := ((q / 8 % 10 : Nat) : Int)) (by omega) (modN (b := 10) (by omega))) ?_
          refine sq rfl rfl hn rfl (q_buildd rfl bt59 rfl rfl rfl rfl rfl) ?_
          refine stepW (s_alloc 23 rfl rfl rfl (nb hn rfl) zr59 rfl rfl) fun b23 => ?_
          refine stepW (s_store rfl rfl rfl rfl rfl rfl (id := 23) rfl sz59 rfl (Nat.le_of_ble_eq_true rfl) rfl trivial) fun _ => ?_
          refine run_nil ?_
          refine aend_then ?_
          refine awp_seq ?_
          refine awp_join_on (e := .normal) (ι := Unit) (fun x => anys [185, 186, 187, 188, 189, 190, 191, 192, 193]) (fun x => [(23, .box b23 59 [.d (.int .i64 ((q % start.length : Nat) : Int)), .d (.int .i64 (houseAt o (q / 8 % 10) (q % start.length))), .d (.int .i64 ((q / 8 % 10 : Nat) : Int))])]) (fun hJ4 => ?_) ?_
          · skip
            refine d_start (W := fun b => b ≠ b19) fmo ?_
            refine d1q (i := 0) rfl (by kernel_rfl) (fun _ _ _ _ h => h) rfl rfl hn rfl (q_fieldAddr rfl rfl Try.underlying59 rfl sz3) ?_
            refine d1q (i := 2) rfl (by kernel_rfl) (fun _ _ _ _ h => h) rfl rfl hn rfl (q_fieldAddr rfl rfl Try.underlying59 rfl sz3) ?_
            refine d1q (i := 4) rfl (by kernel_rfl) (fun _ _ _ _ h => h) rfl rfl hn rfl (q_fieldAddr rfl rfl Try.underlying88 rfl sz84) ?_
            refine d1_of_d2 ?_
            refine d2_all 1 [3] (by kernel_rfl) ⟨?_, ?_, trivial⟩
            · skip
              refine br rfl (quiet_wg _ [] (guard_none rfl) rfl (nb hn rfl) (fun _ => trivial) (fun _ => q_load rfl rfl (id := 23) rfl Try.underlying3 rfl rfl sees0)) fun _ => ?_
              refine d2_of_d1 ?_
              refine d1q (i := 5) rfl (by kernel_rfl) (fun _ _ _ _ h => h) rfl rfl hn rfl (q_indexA (i := q / 8 % 10) rfl rfl rfl Try.underlying84 sz83 rfl (by omega)) ?_
              refine d1_of_d2 ?_
              refine d2_one (i := 3) (by kernel_rfl) rfl (quiet_wg _ [] (guard_none rfl) rfl (nb hn rfl) (fun _ => trivial) (fun _ => q_load rfl rfl (id := 23) rfl Try.underlying3 rfl rfl sees0)) fun _ => ?_
              refine d2_of_d1 ?_
              refine d1q (i := 6) rfl (by kernel_rfl) (fun _ _ _ _ h => h) rfl rfl hn rfl (q_indexA (i := q % start.length) rfl rfl rfl Try.underlying83 sz3 rfl (by omega)) ?_
              refine d1q (i := 7) rfl (by kernel_rfl) (fun _ _ _ _ h => h) rfl rfl hn rfl (q_load rfl rfl (id := 19) rfl Try.underlying3 rfl (at0 (by show 0 + 0 + (q / 8 % 10) * 4 + (q % start.length) * 1 = (q / 8 % 10) * 4 + (q % start.length); omega) (getD_some (by omega))) (seesA (by simp))) ?_
              refine d1q (i := 8) rfl (by kernel_rfl) (fun _ _ _ _ h => h) rfl rfl hn rfl (q_fieldAddr rfl rfl Try.underlying59 rfl sz3) ?_
              refine d1_of_d2 ?_
              refine g_ne_d2 (i := 23) (j := 19) rfl rfl rfl (fun hne23_19 => ?_)
              refine d2_one (i := 9) (by kernel_rfl) rfl (s_store1 rfl rfl rfl rfl rfl rfl (id := 23) rfl sz3 (Nat.le_of_ble_eq_true rfl) rfl (fun e => hne23_19 _ rfl (congrArg some e.symm))) fun _ => ?_
              refine d2_of_d1 ?_
              refine d1_of_d2 ?_
              refine d2_done (by kernel_rfl) ?_
              exact aend_join_on hJ4 () (holdT_anys _) ⟨.inl rfl, trivial⟩ (by repeat (first | exact kr _ | refine kc rfl ?_)) (by repeat (first | exact kr _ | refine kc rfl ?_))
            · skip
              refine br rfl (quiet_wg _ [] (guard_none rfl) rfl (nb hn rfl) (fun _ => trivial) (fun _ => q_load rfl rfl (id := 23) rfl Try.underlying3 rfl rfl sees0)) fun _ => ?_
              refine d2_of_d1 ?_
              refine d1_of_d2 ?_
              refine d2_one (i := 1) (by kernel_rfl) rfl (quiet_wg _ [] (guard_none rfl) rfl (nb hn rfl) (fun _ => trivial) (fun _ => q_load rfl rfl (id := 23) rfl Try.underlying3 rfl rfl sees0)) fun _ => ?_
              refine d2_of_d1 ?_
              refine d1q (i := 5) rfl (by kernel_rfl) (fun _ _ _ _ h => h) rfl rfl hn rfl (q_indexA (i := q / 8 % 10) rfl rfl rfl Try.underlying84 sz83 rfl (by omega)) ?_
              refine d1q (i := 6) rfl (by kernel_rfl) (fun _ _ _ _ h => h) rfl rfl hn rfl (q_indexA (i := q % start.length) rfl rfl rfl Try.underlying83 sz3 rfl (by omega)) ?_
              refine d1q (i := 7) rfl (by kernel_rfl) (fun _ _ _ _ h => h) rfl rfl hn rfl (q_load rfl rfl (id := 19) rfl Try.underlying3 rfl (at0 (by show 0 + 0 + (q / 8 % 10) * 4 + (q % start.length) * 1 = (q / 8 % 10) * 4 + (q % start.length); omega) (getD_some (by omega))) (seesA (by simp))) ?_
              refine d1q (i := 8) rfl (by kernel_rfl) (fun _ _ _ _ h => h) rfl rfl hn rfl (q_fieldAddr rfl rfl Try.underlying59 rfl sz3) ?_
              refine d1_of_d2 ?_
              refine g_ne_d2 (i := 23) (j := 19) rfl rfl rfl (fun hne23_19 => ?_)
              refine d2_one (i := 9) (by kernel_rfl) rfl (s_store1 rfl rfl rfl rfl rfl rfl (id := 23) rfl sz3 (Nat.le_of_ble_eq_true rfl) rfl (fun e => hne23_19 _ rfl (congrArg some e.symm))) fun _ => ?_
              refine d2_of_d1 ?_
              refine d1_of_d2 ?_
              refine d2_done (by kernel_rfl) ?_
              exact aend_join_on hJ4 () (holdT_anys _) ⟨.inl rfl, trivial⟩ (by repeat (first | exact kr _ | refine kc rfl ?_)) (by repeat (first | exact kr _ | refine kc rfl ?_))
          · rintro _
            refine aend_then ?_
            refine awp_region ?_
            refine sq rfl rfl hn rfl (q_fieldAddr rfl rfl Try.underlying26 rfl sz24) ?_
            refine sq rfl rfl hn rfl (q_load rfl rfl (id := 10) rfl Try.underlying24 rfl rfl sees0) ?_
            refine sq rfl rfl hn rfl (q_loadAd rfl rfl (id := 23) rfl Try.underlying59 rfl sz59 rfl rfl sees0) ?_
            refine stepW (s_buildSlice rfl rfl rfl (nb hn rfl) Try.underlying24 sz59 zr59 rfl rfl rfl (show _ = [.d (.int .i64 0), .d (.int .i64 0), .d (.int .i64 0)] from by kernel_rfl) (by kernel_rfl) rfl (fill_agg (by kernel_rfl) rfl) (allD_d _) (beq_len rfl) (chunk_one rfl)) fun _ => ?_
            refine stepW (s_append (id := 1021) rfl rfl rfl (nb hn rfl) elt24 trivial rfl rfl rfl (by simp; omega) (by simp; omega) (fun b hb => trivial)) fun v198 => ?_
            refine sq rfl rfl hn rfl (q_fieldAddr rfl rfl Try.underlying26 rfl sz24) ?_
            refine stepW (s_storeRow rfl rfl rfl rfl rfl (rid := 1021) rfl (id := 10) rfl sz24 (Nat.le_of_ble_eq_true rfl) rfl trivial) fun _ => ?_
            refine run_nil ?_
            refine aend_block ?_
            refine aend_then ?_
            refine awp_region ?_
            refine sq rfl rfl hn rfl (q_move rfl rfl) ?_
            refine sq rfl rfl hn rfl (q_add rfl rfl rfl (r := ((k + 1 : Nat) : Int)) (i64w (by omega) (by omega))) ?_
            refine sq rfl rfl hn rfl (q_assign rfl rfl) ?_
            refine run_nil ?_
            exact aend_round_on ⟨(k + 1, si ++ [⟨(q % start.length : Nat), houseAt o (q / 8 % 10) (q % start.length), (q / 8 % 10 : Nat)⟩], v198), by simp only; omega, by simp; omega, fun s hs => by rcases List.mem_append.1 hs with hs | hs; exact hsp s hs; rw [List.mem_singleton] at hs; subst hs; exact ⟨⟨by show (0 : Int) ≤ ((q % start.length : Nat) : Int); omega, by show ((q % start.length : Nat) : Int) ≤ _; omega⟩, ⟨by show (0 : Int) ≤ ((q / 8 % 10 : Nat) : Int); omega, by show ((q / 8 % 10 : Nat) : Int) ≤ _; omega⟩, rfl⟩⟩ ⟨.inl rfl, holdT_anys _⟩ ⟨.inl rfl, .inl (congrArg (fun z => some (Res.row v198 59 3 z)) (sights_add (x := ⟨((q % start.length : Nat) : Int), houseAt o (q / 8 % 10) (q % start.length), ((q / 8 % 10 : Nat) : Int)⟩))), holdR_gones _⟩ (by simp only; omega) (by repeat (first | exact kr _ | refine kc rfl ?_)) (by repeat (first | exact kr _ | refine kc rfl ?_))
        · skip
          refine awp_exit ?_
          refine aend_then_exit ?_
          refine aend_then_exit ?_
          refine aend_block_exit ?_
          refine aend_then ?_
          refine awp_seq ?_
          have hst5 := sights_truth v0 rfl T hdl (by rw [ho]; exact hag) (show si.length ≤ 4 by omega) (fun s hs => by rw [ho]; exact hsp s hs)
          refine gh_awp (gh_rowcell (id := 10) (k := 3) (rid := 1021) rfl rfl rfl) ?_
          refine awp_region ?_
          refine sq rfl rfl hn rfl (q_loadAd rfl rfl (id := 10) rfl Try.underlying26 rfl sz26 rfl rfl sees0) ?_
          refine sq rfl rfl hn rfl (q_move rfl rfl) ?_
          refine stepW (s_store rfl rfl rfl rfl rfl rfl (id := 8) rfl sz26 rfl (Nat.le_of_ble_eq_true rfl) rfl trivial) fun _ => ?_
          refine sq rfl rfl hn rfl (q_assign rfl rfl) ?_
          refine run_nil ?_
          refine aend_then ?_
          refine awp_ret ?_
          refine gh_end (g_row (t := 9) (id := 12) rfl rfl) ?_
          exact ret_E (.inl rfl) ⟨(⟨(H : Int), start, es, si⟩, ts), rfl, rfl, hst5.1, ⟨ds, hst5.2⟩, hap_pref hap v hi7 si⟩ (hands_2d rfl (.d (.cellA rfl (id := 8) rfl Try.underlying26 rfl sz26 rfl rfl)) (.tmp rfl)) trivial
    · skip
      have hdh : day + w % 3 ≤ 9 ∧ 2 ≤ H := by simp at hb1; omega
      refine awp_skip ?_
      refine aend_then ?_
      refine awp_seq ?_
      refine awp_region ?_
      refine sq rfl rfl hn rfl (q_move rfl rfl) ?_
      refine sq rfl rfl hn rfl (q_quo rfl rfl rfl (r := ((w / 4 : Nat) : Int)) (by omega) (quoN (b := 4) (by omega) (by omega))) ?_
      refine sq rfl rfl hn rfl (q_move rfl rfl) ?_
      refine sq rfl rfl hn rfl (q_len rfl rfl Try.underlying22) ?_
      refine sq rfl rfl hn rfl (q_rem rfl rfl rfl (r := ((w / 4 % start.length : Nat) : Int)) (by simp only [List.length_map]; omega) (by simp only [List.length_map]; exact modN (by omega))) ?_
      refine sq rfl rfl hn rfl (q_buildd rfl bt67 rfl rfl rfl rfl rfl) ?_
      refine stepW (s_alloc 18 rfl rfl rfl (nb hn rfl) zr67 rfl rfl) fun b18 => ?_
      refine stepW (s_store rfl rfl rfl rfl rfl rfl (id := 18) rfl sz67 rfl (Nat.le_of_ble_eq_true rfl) rfl trivial) fun _ => ?_
      refine run_nil ?_
      refine aend_then ?_
      refine awp_seq ?_
      obtain ⟨s, hs⟩ : ∃ s, w / 4 % start.length = s := ⟨_, rfl⟩
      rw [hs]
      have hsl : s < start.length := hs ▸ Nat.mod_lt _ (by omega)
      have hnl := hap.nl
      have hfb := hap.nb _ (getD_mem (show s < now.length by omega))
      obtain ⟨f, hf⟩ : ∃ f : Nat, now.getD s 0 = f := ⟨(now.getD s 0).toNat, by omega⟩
      have hget : now[s]? = some (f : Int) := by rw [← hf]; exact getD_some (by omega)
      have hfH : f < H := by omega
      refine awp_region ?_
      refine sq rfl rfl hn rfl (q_move rfl rfl) ?_
      refine sq rfl rfl hn rfl (q_fieldAddr rfl rfl Try.underlying67 rfl sz3) ?_
      refine sq rfl rfl hn rfl (q_load rfl rfl (id := 18) rfl Try.underlying3 rfl rfl sees0) ?_
      refine sq rfl rfl hn rfl (q_indexV (i := s) rfl rfl rfl Try.underlying22 sz3 rfl hsl) ?_
      refine sq rfl rfl hn rfl (q_load rfl rfl (id := 1010) rfl Try.underlying3 rfl (c1_get hget (by show 0 + s * 1 = s; omega)) sees0) ?_
      refine sq rfl rfl hn rfl (q_fieldAddr rfl rfl Try.underlying67 rfl sz3) ?_
      refine stepW (s_store1 rfl rfl rfl rfl rfl rfl (id := 18) rfl sz3 (Nat.le_of_ble_eq_true rfl) rfl trivial) fun _ => ?_
      refine run_nil ?_
      refine aend_then ?_
      refine awp_seq ?_
      refine d_start (W := fun b => True) fmo ?_
      refine d1q (i := 0) rfl (by kernel_rfl) (fun _ _ _ _ h => h) rfl rfl hn rfl (q_fieldAddr rfl rfl Try.underlying67 rfl sz3) ?_
      refine d1q (i := 3) rfl (by kernel_rfl) (fun _ _ _ _ h => h) rfl rfl hn rfl (q_move rfl rfl) ?_
      refine d1q (i := 4) rfl (by kernel_rfl) (fun _ _ _ _ h => h) rfl rfl hn rfl (q_quo rfl rfl rfl (r := ((w / 16 : Nat) : Int)) (by omega) (quoN (b := 16) (by omega) (by omega))) ?_
      refine d1q (i := 5) rfl (by kernel_rfl) (fun _ _ _ _ h => h) rfl rfl hn rfl (q_move rfl rfl) ?_
      refine d1q (i := 6) rfl (by kernel_rfl) (fun _ _ _ _ h => h) rfl rfl hn rfl (q_sub rfl rfl rfl (r := ((H - 1 : Nat) : Int)) (i64w (by omega) (by omega))) ?_
      refine d1q (i := 7) rfl (by kernel_rfl) (fun _ _ _ _ h => h) rfl rfl hn rfl (q_rem rfl rfl rfl (r := ((w / 16 % (H - 1) : Nat) : Int)) (by omega) (modN (by omega))) ?_
      refine d1q (i := 9) rfl (by kernel_rfl) (fun _ _ _ _ h => h) rfl rfl hn rfl (q_move rfl rfl) ?_
      refine d1_of_d2 ?_
      refine d2_one (i := 1) (by kernel_rfl) rfl (quiet_wg _ [] (guard_none rfl) rfl (nb hn rfl) (fun _ => trivial) (fun _ => q_load rfl rfl (id := 18) rfl Try.underlying3 rfl rfl sees0)) fun _ => ?_
      refine d2_of_d1 ?_
      refine d1q (i := 2) rfl (by kernel_rfl) (fun _ _ _ _ h => h) rfl rfl hn rfl (q_add rfl rfl rfl (r := ((f + 1 : Nat) : Int)) (i64w (by omega) (by omega))) ?_
      refine d1q (i := 8) rfl (by kernel_rfl) (fun _ _ _ _ h => h) rfl rfl hn rfl (q_add rfl rfl rfl (r := ((f + 1 + w / 16 % (H - 1) : Nat) : Int)) (i64w (by have := Nat.mod_lt (w / 16) (show 0 < H - 1 by omega); omega) (by omega))) ?_
      refine d1q (i := 10) rfl (by kernel_rfl) (fun _ _ _ _ h => h) rfl rfl hn rfl (q_rem rfl rfl rfl (r := (((f + 1 + w / 16 % (H - 1)) % H : Nat) : Int)) (by omega) (modN (by omega))) ?_
      refine d1q (i := 11) rfl (by kernel_rfl) (fun _ _ _ _ h => h) rfl rfl hn rfl (q_fieldAddr rfl rfl Try.underlying67 rfl sz3) ?_
      refine d1_of_d2 ?_
      refine d2_one (i := 12) (by kernel_rfl) rfl (s_store1 rfl rfl rfl rfl rfl rfl (id := 18) rfl sz3 (Nat.le_of_ble_eq_true rfl) rfl trivial) fun _ => ?_
      refine d2_of_d1 ?_
      refine d1_of_d2 ?_
      refine d2_done (by kernel_rfl) ?_
      refine aend_then ?_
      refine awp_seq ?_
      refine awp_block ?_
      refine awp_seq ?_
      obtain ⟨hft, htH⟩ := rot_ne (a := w / 16) hfH hdh.2
      obtain ⟨to, hto⟩ : ∃ to, (f + 1 + w / 16 % (H - 1)) % H = to := ⟨_, rfl⟩
      rw [hto] at hft htH
      rw [hto]
      have hol := hap.ol
      have hob := hap.ob
      refine d_start (W := fun b => b ≠ b13 ∧ b ≠ b18) fmo ?_
      refine d1q (i := 0) rfl (by kernel_rfl) (fun _ _ _ _ h => h) rfl rfl hn rfl (q_fieldAddr rfl rfl Try.underlying67 rfl sz3) ?_
      refine d1q (i := 1) rfl (by kernel_rfl) (fun _ _ _ _ h => h) rfl rfl hn rfl (q_load rfl rfl (id := 18) rfl Try.underlying3 rfl rfl (seesA (by simp))) ?_
      refine d1q (i := 2) rfl (by kernel_rfl) (fun _ _ _ _ h => h) rfl rfl hn rfl (q_fieldAddr rfl rfl Try.underlying67 rfl sz3) ?_
      refine d1q (i := 3) rfl (by kernel_rfl) (fun _ _ _ _ h => h) rfl rfl hn rfl (q_load rfl rfl (id := 18) rfl Try.underlying3 rfl rfl (seesA (by simp))) ?_
      refine d1q (i := 4) rfl (by kernel_rfl) (fun _ _ _ _ h => h) rfl rfl hn rfl (q_indexA (i := to) rfl rfl rfl Try.underlying85 sz83 rfl (by omega)) ?_
      refine d1q (i := 5) rfl (by kernel_rfl) (fun _ _ _ _ h => h) rfl rfl hn rfl (q_indexA (i := f) rfl rfl rfl Try.underlying83 sz3 rfl (by omega)) ?_
      refine d1q (i := 6) rfl (by kernel_rfl) (fun _ _ _ _ h => h) rfl rfl hn rfl (q_load rfl rfl (id := 13) rfl Try.underlying3 rfl (at2 (getD_some (by omega))) (seesA (by simp))) ?_
      refine d1q (i := 7) rfl (by kernel_rfl) (fun _ _ _ _ h => h) rfl rfl hn rfl (q_gtr rfl rfl rfl) ?_
      refine d1q (i := 8) rfl (by kernel_rfl) (fun _ _ _ _ h => h) rfl rfl hn rfl (q_move rfl rfl) ?_
      refine d1g (i := 9) [] rfl (by kernel_rfl) (fun _ _ _ _ h => h) (guard_some rfl rfl rfl) rfl hn rfl (fun hc => trivial) (fun hc => q_move rfl rfl) ?_
      refine d1g (i := 10) [(90, _)] rfl (by kernel_rfl) (fun _ _ _ _ h => h) (guard_some rfl rfl rfl) rfl hn rfl (fun hc => ⟨⟨_, rfl, hc⟩, trivial⟩) (fun hc => q_rem rfl rfl rfl (r := ((u % 2 : Nat) : Int)) (by omega) (modN (b := 2) (by omega))) ?_
      refine d1g (i := 11) [(91, _)] rfl (by kernel_rfl) (fun _ _ _ _ h => h) (guard_some rfl rfl rfl) rfl hn rfl (fun hc => ⟨⟨_, rfl, hc⟩, trivial⟩) (fun hc => q_eql rfl rfl rfl) ?_
      refine d1q (i := 12) rfl (by kernel_rfl) (fun _ _ _ _ h => h) rfl rfl hn rfl (q_and rfl rfl rfl (by intro hB; first | (rw [hB]; rfl) | (rw [hB, hc]; rfl) | simp_all)) ?_
      refine d1q (i := 13) rfl (by kernel_rfl) (fun _ _ _ _ h => h) rfl rfl hn rfl (q_assign rfl rfl) ?_
      refine d1_of_d2 ?_
      refine d2_done (by kernel_rfl) ?_
      refine aend_then ?_
      refine awp_join_on (e := .normal) (ι := {p : Int × List Int // (p.1 = 2 ∧ 0 < op.getD (to * 4 + f) 0 ∧ p.2 = upd op (to * 4 + f) (-1)) ∨ (p.1 = 1 ∧ p.2 = upd op (f * 4 + to) 1) ∨ (p.1 = 0 ∧ p.2 = op)}) (fun x => anys [94, 95, 96, 97, 98, 99, 100, 101, 102, 103, 104, 106, 107, 108, 105, 109, 110, 111, 112, 113, 114, 115, 116, 117, 118, 119]) (fun x => [(18, .box b18 67 [.d (.int .i64 x.1.1), .d (.int .i64 (s : Nat)), .d (.int .i64 (f : Nat)), .d (.int .i64 (to : Nat)), .d (.int .i64 0), .d (.int .i64 0)]), (13, .box b13 85 (x.1.2.map intT))]) (fun hJ5 => ?_) ?_
      · skip
        refine awp_cond rfl (fun hb5 => ?_) (fun hb5 => ?_)
        · skip
          have hpos : 0 < op.getD (to * 4 + f) 0 := by simp only [Bool.and_eq_true, decide_eq_true_eq] at hb5; exact hb5.1
          have hog := hob _ (getD_mem (show to * 4 + f < op.length by omega))
          refine awp_seq ?_
          refine awp_region ?_
          refine sq rfl rfl hn rfl (q_fieldAddr rfl rfl Try.underlying67 rfl sz3) ?_
          refine stepW (s_store1 rfl rfl rfl rfl rfl rfl (id := 18) rfl sz3 (Nat.le_of_ble_eq_true rfl) rfl trivial) fun _ => ?_
          refine run_nil ?_
          refine aend_then ?_
          refine d_start (W := fun b => b ≠ b18) fmo ?_
          refine d1q (i := 0) rfl (by kernel_rfl) (fun _ _ _ _ h => h) rfl rfl hn rfl (q_fieldAddr rfl rfl Try.underlying67 rfl sz3) ?_
          refine d1q (i := 1) rfl (by kernel_rfl) (fun _ _ _ _ h => h) rfl rfl hn rfl (q_load rfl rfl (id := 18) rfl Try.underlying3 rfl rfl (seesA (by simp))) ?_
          refine d1q (i := 2) rfl (by kernel_rfl) (fun _ _ _ _ h => h) rfl rfl hn rfl (q_fieldAddr rfl rfl Try.underlying67 rfl sz3) ?_
          refine d1q (i := 3) rfl (by kernel_rfl) (fun _ _ _ _ h => h) rfl rfl hn rfl (q_load rfl rfl (id := 18) rfl Try.underlying3 rfl rfl (seesA (by simp))) ?_
          refine d1q (i := 4) rfl (by kernel_rfl) (fun _ _ _ _ h => h) rfl rfl hn rfl (q_indexA (i := to) rfl rfl rfl Try.underlying85 sz83 rfl (by omega)) ?_
          refine d1q (i := 5) rfl (by kernel_rfl) (fun _ _ _ _ h => h) rfl rfl hn rfl (q_indexA (i := f) rfl rfl rfl Try.underlying83 sz3 rfl (by omega)) ?_
          refine d1q (i := 8) rfl (by kernel_rfl) (fun _ _ _ _ h => h) rfl rfl hn rfl (q_indexA (i := to) rfl rfl rfl Try.underlying85 sz83 rfl (by omega)) ?_
          refine d1_of_d2 ?_
          refine d2_one (i := 6) (by kernel_rfl) rfl (quiet_wg _ [] (guard_none rfl) rfl (nb hn rfl) (fun _ => trivial) (fun _ => q_load rfl rfl (id := 13) rfl Try.underlying3 rfl (at2 (getD_some (by omega))) sees0)) fun _ => ?_
          refine d2_of_d1 ?_
          refine d1q (i := 7) rfl (by kernel_rfl) (fun _ _ _ _ h => h) rfl rfl hn rfl (q_sub rfl rfl rfl (r := op.getD (to * 4 + f) 0 + (-1)) (i64w (by omega) (by omega))) ?_
          refine d1q (i := 9) rfl (by kernel_rfl) (fun _ _ _ _ h => h) rfl rfl hn rfl (q_indexA (i := f) rfl rfl rfl Try.underlying83 sz3 rfl (by omega)) ?_
          refine d1_of_d2 ?_
          refine g_ne_d2 (i := 13) (j := 18) rfl rfl rfl (fun hne13_18 => ?_)
          refine d2_one (i := 10) (by kernel_rfl) rfl (s_store1 rfl rfl rfl rfl rfl rfl (id := 13) rfl sz3 (by simp; omega) (show _ = (upd op (to * 4 + f) (-1)).map intT from set2) (fun e => hne13_18 _ rfl (congrArg some e.symm))) fun _ => ?_
          refine d2_of_d1 ?_
          refine d1_of_d2 ?_
          refine d2_done (by kernel_rfl) ?_
          exact aend_join_on hJ5 ⟨(2, upd op (to * 4 + f) (-1)), .inl ⟨rfl, hpos, rfl⟩⟩ (holdT_anys _) ⟨.inl rfl, .inl rfl, trivial⟩ (by repeat (first | exact kr _ | refine kc rfl ?_)) (by repeat (first | exact kr _ | refine kc rfl ?_))
        · skip
          refine awp_seq ?_
          refine awp_region ?_
          refine sq rfl rfl hn rfl (q_move rfl rfl) ?_
          refine sq rfl rfl hn rfl (q_rem rfl rfl rfl (r := ((u % 3 : Nat) : Int)) (by omega) (modN (b := 3) (by omega))) ?_
          refine sq rfl rfl hn rfl (q_eql rfl rfl rfl) ?_
          refine sq rfl rfl hn rfl (q_assign rfl rfl) ?_
          refine run_nil ?_
          refine aend_then ?_
          refine awp_cond rfl (fun hb6 => ?_) (fun hb6 => ?_)
          · skip
            have hog := hob _ (getD_mem (show f * 4 + to < op.length by omega))
            refine awp_seq ?_
            refine awp_region ?_
            refine sq rfl rfl hn rfl (q_fieldAddr rfl rfl Try.underlying67 rfl sz3) ?_
            refine stepW (s_store1 rfl rfl rfl rfl rfl rfl (id := 18) rfl sz3 (Nat.le_of_ble_eq_true rfl) rfl trivial) fun _ => ?_
            refine run_nil ?_
            refine aend_then ?_
            refine d_start (W := fun b => b ≠ b18) fmo ?_
            refine d1q (i := 0) rfl (by kernel_rfl) (fun _ _ _ _ h => h) rfl rfl hn rfl (q_fieldAddr rfl rfl Try.underlying67 rfl sz3) ?_
            refine d1q (i := 1) rfl (by kernel_rfl) (fun _ _ _ _ h => h) rfl rfl hn rfl (q_load rfl rfl (id := 18) rfl Try.underlying3 rfl rfl (seesA (by simp))) ?_
            refine d1q (i := 2) rfl (by kernel_rfl) (fun _ _ _ _ h => h) rfl rfl hn rfl (q_fieldAddr rfl rfl Try.underlying67 rfl sz3) ?_
            refine d1q (i := 3) rfl (by kernel_rfl) (fun _ _ _ _ h => h) rfl rfl hn rfl (q_load rfl rfl (id := 18) rfl Try.underlying3 rfl rfl (seesA (by simp))) ?_
            refine d1q (i := 4) rfl (by kernel_rfl) (fun _ _ _ _ h => h) rfl rfl hn rfl (q_indexA (i := f) rfl rfl rfl Try.underlying85 sz83 rfl (by omega)) ?_
            refine d1q (i := 5) rfl (by kernel_rfl) (fun _ _ _ _ h => h) rfl rfl hn rfl (q_indexA (i := to) rfl rfl rfl Try.underlying83 sz3 rfl (by omega)) ?_
            refine d1q (i := 8) rfl (by kernel_rfl) (fun _ _ _ _ h => h) rfl rfl hn rfl (q_indexA (i := f) rfl rfl rfl Try.underlying85 sz83 rfl (by omega)) ?_
            refine d1_of_d2 ?_
            refine d2_one (i := 6) (by kernel_rfl) rfl (quiet_wg _ [] (guard_none rfl) rfl (nb hn rfl) (fun _ => trivial) (fun _ => q_load rfl rfl (id := 13) rfl Try.underlying3 rfl (at2 (getD_some (by omega))) sees0)) fun _ => ?_
            refine d2_of_d1 ?_
            refine d1q (i := 7) rfl (by kernel_rfl) (fun _ _ _ _ h => h) rfl rfl hn rfl (q_add rfl rfl rfl (r := op.getD (f * 4 + to) 0 + 1) (i64w (by omega) rfl)) ?_
            refine d1q (i := 9) rfl (by kernel_rfl) (fun _ _ _ _ h => h) rfl rfl hn rfl (q_indexA (i := to) rfl rfl rfl Try.underlying83 sz3 rfl (by omega)) ?_
            refine d1_of_d2 ?_
            refine g_ne_d2 (i := 13) (j := 18) rfl rfl rfl (fun hne13_18 => ?_)
            refine d2_one (i := 10) (by kernel_rfl) rfl (s_store1 rfl rfl rfl rfl rfl rfl (id := 13) rfl sz3 (by simp; omega) (show _ = (upd op (f * 4 + to) 1).map intT from set2) (fun e => hne13_18 _ rfl (congrArg some e.symm))) fun _ => ?_
            refine d2_of_d1 ?_
            refine d1_of_d2 ?_
            refine d2_done (by kernel_rfl) ?_
            exact aend_join_on hJ5 ⟨(1, upd op (f * 4 + to) 1), .inr (.inl ⟨rfl, rfl⟩)⟩ (holdT_anys _) ⟨.inl rfl, .inl rfl, trivial⟩ (by repeat (first | exact kr _ | refine kc rfl ?_)) (by repeat (first | exact kr _ | refine kc rfl ?_))
          · skip
            refine awp_skip ?_
            exact aend_join_on hJ5 ⟨(0, op), .inr (.inr ⟨rfl, rfl⟩)⟩ (holdT_anys _) ⟨.inl rfl, .inl rfl, trivial⟩ (by repeat (first | exact kr _ | refine kc rfl ?_)) (by repeat (first | exact kr _ | refine kc rfl ?_))
      · rintro ⟨⟨kd, op2⟩, hkd⟩
        dsimp only
        dsimp only at hkd
        refine aend_block ?_
        refine aend_then ?_
        refine awp_seq ?_
        refine awp_region ?_
        refine sq rfl rfl hn rfl (q_move rfl rfl) ?_
        refine sq rfl rfl hn rfl (q_fieldAddr rfl rfl Try.underlying67 rfl sz3) ?_
        refine sq rfl rfl hn rfl (q_load rfl rfl (id := 18) rfl Try.underlying3 rfl rfl sees0) ?_
        refine sq rfl rfl hn rfl (q_fieldAddr rfl rfl Try.underlying67 rfl sz3) ?_
        refine sq rfl rfl hn rfl (q_load rfl rfl (id := 18) rfl Try.underlying3 rfl rfl sees0) ?_
        refine sq rfl rfl hn rfl (q_indexV (i := s) rfl rfl rfl Try.underlying22 sz3 rfl hsl) ?_
        refine stepW (s_store1 rfl rfl rfl rfl rfl rfl (id := 1010) rfl sz3 (by show 0 + s * 1 < _; rw [List.length_append, c1_len]; omega) (c1_set (show s < now.length by omega) (by show 0 + s * 1 = s; omega)) trivial) fun _ => ?_
        refine run_nil ?_
        refine aend_then ?_
        refine awp_seq ?_
        refine awp_region ?_
        refine sq rfl rfl hn rfl (q_move rfl rfl) ?_
        refine sq rfl rfl hn rfl (q_move rfl rfl) ?_
        refine sq rfl rfl hn rfl (q_quo rfl rfl rfl (r := ((u / 8 : Nat) : Int)) (by omega) (quoN (b := 8) (by omega) (by omega))) ?_
        refine sq rfl rfl hn rfl (q_rem rfl rfl rfl (r := ((u / 8 % 3 : Nat) : Int)) (by omega) (modN (b := 3) (by omega))) ?_
        refine sq rfl rfl hn rfl (q_sub rfl rfl rfl (r := ((day + w % 3 : Nat) : Int) - ((u / 8 % 3 : Nat) : Int)) (i64w (by omega) rfl)) ?_
        refine sq rfl rfl hn rfl (q_max rfl rfl rfl) ?_
        refine sq rfl rfl hn rfl (q_move rfl rfl) ?_
        refine sq rfl rfl hn rfl (q_move rfl rfl) ?_
        refine sq rfl rfl hn rfl (q_quo rfl rfl rfl (r := ((u / 32 : Nat) : Int)) (by omega) (quoN (b := 32) (by omega) (by omega))) ?_
        refine sq rfl rfl hn rfl (q_rem rfl rfl rfl (r := ((u / 32 % 3 : Nat) : Int)) (by omega) (modN (b := 3) (by omega))) ?_
        refine sq rfl rfl hn rfl (q_add rfl rfl rfl (r := ((day + w % 3 : Nat) : Int) + ((u / 32 % 3 : Nat) : Int)) (i64w (by omega) rfl)) ?_
        refine sq rfl rfl hn rfl (q_min rfl rfl rfl) ?_
        refine sq rfl rfl hn rfl (q_buildd rfl bt49 rfl rfl rfl rfl rfl) ?_
        refine sq rfl rfl hn rfl (q_fieldAddr rfl rfl Try.underlying67 rfl sz49) ?_
        refine stepW (s_store rfl rfl rfl rfl rfl rfl (id := 18) rfl sz49 rfl (Nat.le_of_ble_eq_true rfl) rfl trivial) fun _ => ?_
        refine run_nil ?_
        refine aend_then ?_
        refine awp_region ?_
        refine sq rfl rfl hn rfl (q_fieldAddr rfl rfl Try.underlying26 rfl sz23) ?_
        refine sq rfl rfl hn rfl (q_load rfl rfl (id := 10) rfl Try.underlying23 rfl rfl sees0) ?_
        refine sq rfl rfl hn rfl (q_loadAd rfl rfl (id := 18) rfl Try.underlying67 rfl sz67 rfl rfl sees0) ?_
        refine stepW (s_buildSlice rfl rfl rfl (nb hn rfl) Try.underlying23 sz67 zr67 rfl rfl rfl (show _ = [.d (.int .i64 0), .d (.int .i64 0), .d (.int .i64 0), .d (.int .i64 0), .d (.int .i64 0), .d (.int .i64 0)] from by kernel_rfl) (by kernel_rfl) rfl (fill_agg (by kernel_rfl) rfl) (allD_d _) (beq_len rfl) (chunk_one rfl)) fun _ => ?_
        refine stepW (s_append (id := 1020) rfl rfl rfl (nb hn rfl) elt23 trivial rfl rfl rfl (by simp; omega) (by simp; omega) (fun b hb => trivial)) fun v144 => ?_
        refine sq rfl rfl hn rfl (q_move rfl rfl) ?_
        refine sq rfl rfl hn rfl (q_move rfl rfl) ?_
        refine stepW (s_buildSlice rfl rfl rfl (nb hn rfl) Try.underlying22 sz3 zr3 rfl rfl rfl (show _ = [.d (.int .i64 0)] from by kernel_rfl) (by kernel_rfl) rfl rfl rfl rfl rfl) fun _ => ?_
        refine stepW (s_append (id := 12) rfl rfl rfl (nb hn rfl) elt22 trivial rfl rfl rfl (by simp [chunk]; omega) (by simp [chunk]; omega) (fun b hb => trivial)) fun v148 => ?_
        refine sq rfl rfl hn rfl (q_fieldAddr rfl rfl Try.underlying26 rfl sz23) ?_
        refine stepW (s_storeRow rfl rfl rfl rfl rfl (rid := 1020) rfl (id := 10) rfl sz23 (Nat.le_of_ble_eq_true rfl) rfl trivial) fun _ => ?_
        refine sq rfl rfl hn rfl (q_assign rfl rfl) ?_
        refine run_nil ?_
        refine aend_block ?_
        refine aend_then ?_
        refine awp_region ?_
        refine sq rfl rfl hn rfl (q_move rfl rfl) ?_
        refine sq rfl rfl hn rfl (q_add rfl rfl rfl (r := ((i + 1 : Nat) : Int)) (i64w (by omega) (by omega))) ?_
        refine sq rfl rfl hn rfl (q_assign rfl rfl) ?_
        refine run_nil ?_
        exact aend_round_on ⟨((i + 1, day + w % 3), (now.set s (to : Nat), op2), (es ++ [⟨kd, (s : Nat), (f : Nat), (to : Nat), max 0 (((day + w % 3 : Nat) : Int) - ((u / 8 % 3 : Nat) : Int)), min 9 (((day + w % 3 : Nat) : Int) + ((u / 32 % 3 : Nat) : Int))⟩], ts ++ [((day + w % 3 : Nat) : Int)]), v144, v148), by simp only; omega, by simp only; omega, (hap.idle (day' := day + w % 3) (by omega)).stepN (by omega) hsl hs4 hf (by omega) hft (by omega) (by omega) hkd⟩ ⟨.inl rfl, .inl rfl, .inl rfl, holdT_anys _⟩ ⟨.inl rfl, .inl (congrArg (fun z => some (Res.row v144 67 6 z)) (ents_add (e := ⟨kd, (s : Nat), (f : Nat), (to : Nat), max 0 (((day + w % 3 : Nat) : Int) - ((u / 8 % 3 : Nat) : Int)), min 9 (((day + w % 3 : Nat) : Int) + ((u / 32 % 3 : Nat) : Int))⟩))), .inl (congrArg (fun z => some (Res.row v148 3 1 z)) (ints_add (x := ((day + w % 3 : Nat) : Int)))), .inl rfl, .inl rfl, holdR_gones _⟩ (by simp only; omega) (by repeat (first | exact kr _ | refine kc rfl ?_)) (by repeat (first | exact kr _ | refine kc rfl ?_))
  · skip
    refine awp_exit ?_
    refine aend_then_exit ?_
    refine aend_then_exit ?_
    refine aend_block_exit ?_
    refine aend_then ?_
    refine awp_seq ?_
    refine awp_seq ?_
    have hi7 : i ≤ 6 := by omega
    obtain ⟨v0, ds, T, hdl, hag⟩ := hap.reg v hi7
    have hrp := truth_play v0 T
    have hout := refPlay_len v0 ts
    obtain ⟨o, ho⟩ : ∃ o, (refPlay (hapReg (H : Int) start es []) ts).1 = o := ⟨_, rfl⟩
    rw [ho] at hout hag
    refine gh_awp (gh_rowcell (id := 10) (k := 2) (rid := 1020) rfl rfl rfl) ?_
    refine awp_region ?_
    refine sq rfl rfl hn rfl (q_loadAd rfl rfl (id := 10) rfl Try.underlying26 rfl sz26 rfl rfl sees0) ?_
    refine sq rfl rfl hn rfl (q_move rfl rfl) ?_
    refine gh_run (g_row (t := 151) (id := 12) rfl rfl) ?_
    refine stepW (s_call [] (fun _ => IsDated_ok (hapReg (H : Int) start es []) ts) rfl (guard_none rfl) rfl (nb hn rfl) (fun _ => trivial) rfl rfl (by first | exact .refl _ | (repeat (first | exact .refl _ | exact .nil _ | refine .cons ?_ ?_ | refine .agg ?_ | refine .tup ?_)))) fun _ => ?_
    refine sq rfl rfl hn rfl (q_not rfl rfl) ?_
    refine run_nil ?_
    refine aend_then ?_
    refine awp_cond rfl (fun hb7 => ?_) (fun hb7 => ?_)
    · skip
      exact absurd hb7 (by rw [show datedF (hapReg (H : Int) start es []).entries ts = true from hap.da]; simp)
    · skip
      refine awp_skip ?_
      refine aend_then ?_
      refine awp_seq ?_
      refine awp_region ?_
      refine sq rfl rfl hn rfl (q_loadAd rfl rfl (id := 10) rfl Try.underlying26 rfl sz26 rfl rfl sees0) ?_
      refine sq rfl rfl hn rfl (q_move rfl rfl) ?_
      refine gh_run (g_row (t := 158) (id := 12) rfl rfl) ?_
      refine stepW (s_call [] (fun _ => (by have h6 := refPlay_ok (hapReg (H : Int) start es []) ts v0 hap.tl; rw [hrp, ho] at h6; exact h6)) rfl (guard_none rfl) rfl (nb hn rfl) (fun _ => trivial) rfl rfl (by first | exact .refl _ | (repeat (first | exact .refl _ | exact .nil _ | refine .cons ?_ ?_ | refine .agg ?_ | refine .tup ?_)))) fun _ => ?_
      refine sq rfl rfl hn rfl (q_move rfl rfl) ?_
      refine sq rfl rfl hn rfl (q_extractd rfl rfl rfl) ?_
      refine sq rfl rfl hn rfl (q_extractd rfl rfl rfl) ?_
      refine stepW (s_alloc 19 rfl rfl rfl (nb hn rfl) zr88 (zerosT 200) (by kernel_rfl)) fun b19 => ?_
      refine stepW (s_store rfl rfl rfl rfl rfl rfl (id := 19) rfl sz88 (cells_len hout) (Nat.le_of_ble_eq_true rfl) (store_all (by simp)) trivial) fun _ => ?_
      refine sq rfl rfl hn rfl (q_assign rfl rfl) ?_
      refine run_nil ?_
      refine aend_then ?_
      refine awp_seq ?_
      refine awp_seq ?_
      refine gh_awp (gh_nilcell (id := 10) (k := 3) 1021 59 3 rfl rfl) ?_
      refine awp_region ?_
      refine sq rfl rfl hn rfl (q_assign rfl rfl) ?_
      refine run_nil ?_
      refine aend_then ?_
      refine awp_block ?_
      refine awp_loop_on (ι := {x : Nat × List Sight5 × Value // x.1 ≤ wordN words 5 % 5 ∧ x.2.1.length ≤ x.1 ∧ ∀ s ∈ x.2.1, (0 ≤ s.sheet ∧ s.sheet ≤ (start.length : Int) - 1) ∧ (0 ≤ s.day ∧ s.day ≤ 9) ∧ s.house = houseAt o s.day.toNat s.sheet.toNat}) (fun x => (21, true, .d (.int .i64 (x.1.1 : Nat))) :: anys [162, 163, 164, 165, 166, 167, 168, 169, 172, 173, 174, 175, 176, 22, 177, 178, 179, 180, 181, 182, 183, 184, 23, 185, 186, 187, 188, 189, 190, 191, 192, 193, 194, 195, 196, 197, 198, 199, 170, 171]) (fun x => (10, .box b10 26 [.d (.int .i64 (H : Nat)), .d (ints start), .d (entsD es), .val x.1.2.2]) :: (1021, .row x.1.2.2 59 3 (x.1.2.1.map sightE)) :: gones [23]) (fun x => wordN words 5 % 5 - x.1.1) ⟨(0, [], .slice none 0 0), Nat.zero_le _, Nat.le_refl _, fun _ h => (by cases h)⟩ ⟨.inl rfl, holdT_anys _⟩ ⟨.inl rfl, .inl rfl, holdR_gones _⟩ ?_
      rintro ⟨⟨k, si, vS⟩, hk5, hsi, hsp⟩
      dsimp only
      dsimp only at hk5 hsi hsp
      refine awp_seq ?_
      refine awp_seq ?_
      refine awp_region ?_
      refine sq rfl rfl hn rfl (q_move rfl rfl) ?_
      refine sq rfl rfl hn rfl (q_move rfl rfl) ?_
      refine stepW (s_call [] (fun _ => word_ok words 5 hw5) rfl (guard_none rfl) rfl (nb hn rfl) (fun _ => trivial) rfl rfl (.refl _)) fun _ => ?_
      refine sq rfl rfl hn rfl (q_rem rfl rfl rfl (r := ((wordN words 5 % 5 : Nat) : Int)) (by omega) (modN (b := 5) (by omega))) ?_
      refine sq rfl rfl hn rfl (q_lss rfl rfl rfl) ?_
      refine sq rfl rfl hn rfl (q_move rfl rfl) ?_
      refine stepG [] (guard_some rfl rfl rfl) rfl (nb hn rfl) (fun hc => trivial) (fun hc => q_move rfl rfl) ?_
      refine sq rfl rfl hn rfl (q_and rfl rfl rfl (by intro hB; first | (rw [hB]; rfl) | (rw [hB, hc]; rfl) | simp_all)) ?_
      refine run_nil ?_
      refine aend_then ?_
      refine awp_cond rfl (fun hb8 => ?_) (fun hb8 => ?_)
      · skip
        have hkl : k < wordN words 5 % 5 := by simp at hb8; omega
        refine awp_skip ?_
        refine aend_then ?_
        refine awp_seq ?_
        refine awp_block ?_
        refine awp_seq ?_
        refine awp_region ?_
        refine sq rfl rfl hn rfl (q_move rfl rfl) ?_
        refine sq rfl rfl hn rfl (q_move rfl rfl) ?_
        refine sq rfl rfl hn rfl (q_mul rfl rfl rfl (r := ((3 * k : Nat) : Int)) (i64w (by omega) (by omega))) ?_
        refine sq rfl rfl hn rfl (q_add rfl rfl rfl (r := ((3 * k + 2 : Nat) : Int)) (i64w (by omega) (by omega))) ?_
        refine stepW (s_call [] (fun _ => word_ok words (3 * k + 2) hw5) rfl (guard_none rfl) rfl (nb hn rfl) (fun _ => trivial) rfl rfl (.refl _)) fun _ => ?_
        refine sq rfl rfl hn rfl (q_assign rfl rfl) ?_
        refine run_nil ?_
        refine aend_then ?_
        refine awp_seq ?_
        obtain ⟨q, hq⟩ : ∃ q, wordN words (3 * k + 2) = q := ⟨_, rfl⟩
        have hql : q < 65536 := hq ▸ wordN_lt hw5
        rw [hq]
        have hqm := Nat.mod_lt q (show 0 < start.length by omega)
        refine awp_region ?_
        refine sq rfl rfl hn rfl (q_move rfl rfl) ?_
        refine sq rfl rfl hn rfl (q_move rfl rfl) ?_
        refine sq rfl rfl hn rfl (q_len rfl rfl Try.underlying22) ?_
        refine sq rfl rfl hn rfl (q_rem rfl rfl rfl (r := ((q % start.length : Nat) : Int)) (by simp only [List.length_map]; omega) (by simp only [List.length_map]; exact modN (by omega))) ?_
        refine sq rfl rfl hn rfl (q_move rfl rfl) ?_
        refine sq rfl rfl hn rfl (q_quo rfl rfl rfl (r := ((q / 8 : Nat) : Int)) (by omega) (quoN (b := 8) (by omega) (by omega))) ?_
        refine sq rfl rfl hn rfl (q_rem rfl rfl rfl (r := ((q / 8 % 10 : Nat) : Int)) (by omega) (modN (b := 10) (by omega))) ?_
        refine sq rfl rfl hn rfl (q_buildd rfl bt59 rfl rfl rfl rfl rfl) ?_
        refine stepW (s_alloc 23 rfl rfl rfl (nb hn rfl) zr59 rfl rfl) fun b23 => ?_
        refine stepW (s_store rfl rfl rfl rfl rfl rfl (id := 23) rfl sz59 rfl (Nat.le_of_ble_eq_true rfl) rfl trivial) fun _ => ?_
        refine run_nil ?_
        refine aend_then ?_
        refine awp_seq ?_
        refine awp_join_on (e := .normal) (ι := Unit) (fun x => anys [185, 186, 187, 188, 189, 190, 191, 192, 193]) (fun x => [(23, .box b23 59 [.d (.int .i64 ((q % start.length : Nat) : Int)), .d (.int .i64 (houseAt o (q / 8 % 10) (q % start.length))), .d (.int .i64 ((q / 8 % 10 : Nat) : Int))])]) (fun hJ9 => ?_) ?_
        · skip
          refine d_start (W := fun b => b ≠ b19) fmo ?_
          refine d1q (i := 0) rfl (by kernel_rfl) (fun _ _ _ _ h => h) rfl rfl hn rfl (q_fieldAddr rfl rfl Try.underlying59 rfl sz3) ?_
          refine d1q (i := 2) rfl (by kernel_rfl) (fun _ _ _ _ h => h) rfl rfl hn rfl (q_fieldAddr rfl rfl Try.underlying59 rfl sz3) ?_
          refine d1q (i := 4) rfl (by kernel_rfl) (fun _ _ _ _ h => h) rfl rfl hn rfl (q_fieldAddr rfl rfl Try.underlying88 rfl sz84) ?_
          refine d1_of_d2 ?_
          refine d2_all 1 [3] (by kernel_rfl) ⟨?_, ?_, trivial⟩
          · skip
            refine br rfl (quiet_wg _ [] (guard_none rfl) rfl (nb hn rfl) (fun _ => trivial) (fun _ => q_load rfl rfl (id := 23) rfl Try.underlying3 rfl rfl sees0)) fun _ => ?_
            refine d2_of_d1 ?_
            refine d1q (i := 5) rfl (by kernel_rfl) (fun _ _ _ _ h => h) rfl rfl hn rfl (q_indexA (i := q / 8 % 10) rfl rfl rfl Try.underlying84 sz83 rfl (by omega)) ?_
            refine d1_of_d2 ?_
            refine d2_one (i := 3) (by kernel_rfl) rfl (quiet_wg _ [] (guard_none rfl) rfl (nb hn rfl) (fun _ => trivial) (fun _ => q_load rfl rfl (id := 23) rfl Try.underlying3 rfl rfl sees0)) fun _ => ?_
            refine d2_of_d1 ?_
            refine d1q (i := 6) rfl (by kernel_rfl) (fun _ _ _ _ h => h) rfl rfl hn rfl (q_indexA (i := q % start.length) rfl rfl rfl Try.underlying83 sz3 rfl (by omega)) ?_
            refine d1q (i := 7) rfl (by kernel_rfl) (fun _ _ _ _ h => h) rfl rfl hn rfl (q_load rfl rfl (id := 19) rfl Try.underlying3 rfl (at0 (by show 0 + 0 + (q / 8 % 10) * 4 + (q % start.length) * 1 = (q / 8 % 10) * 4 + (q % start.length); omega) (getD_some (by omega))) (seesA (by simp))) ?_
            refine d1q (i := 8) rfl (by kernel_rfl) (fun _ _ _ _ h => h) rfl rfl hn rfl (q_fieldAddr rfl rfl Try.underlying59 rfl sz3) ?_
            refine d1_of_d2 ?_
            refine g_ne_d2 (i := 23) (j := 19) rfl rfl rfl (fun hne23_19 => ?_)
            refine d2_one (i := 9) (by kernel_rfl) rfl (s_store1 rfl rfl rfl rfl rfl rfl (id := 23) rfl sz3 (Nat.le_of_ble_eq_true rfl) rfl (fun e => hne23_19 _ rfl (congrArg some e.symm))) fun _ => ?_
            refine d2_of_d1 ?_
            refine d1_of_d2 ?_
            refine d2_done (by kernel_rfl) ?_
            exact aend_join_on hJ9 () (holdT_anys _) ⟨.inl rfl, trivial⟩ (by repeat (first | exact kr _ | refine kc rfl ?_)) (by repeat (first | exact kr _ | refine kc rfl ?_))
          · skip
            refine br rfl (quiet_wg _ [] (guard_none rfl) rfl (nb hn rfl) (fun _ => trivial) (fun _ => q_load rfl rfl (id := 23) rfl Try.underlying3 rfl rfl sees0)) fun _ => ?_
            refine d2_of_d1 ?_
            refine d1_of_d2 ?_
            refine d2_one (i := 1) (by kernel_rfl) rfl (quiet_wg _ [] (guard_none rfl) rfl (nb hn rfl) (fun _ => trivial) (fun _ => q_load rfl rfl (id := 23) rfl Try.underlying3 rfl rfl sees0)) fun _ => ?_
            refine d2_of_d1 ?_
            refine d1q (i := 5) rfl (by kernel_rfl) (fun _ _ _ _ h => h) rfl rfl hn rfl (q_indexA (i := q / 8 % 10) rfl rfl rfl Try.underlying84 sz83 rfl (by omega)) ?_
            refine d1q (i := 6) rfl (by kernel_rfl) (fun _ _ _ _ h => h) rfl rfl hn rfl (q_indexA (i := q % start.length) rfl rfl rfl Try.underlying83 sz3 rfl (by omega)) ?_
            refine d1q (i := 7) rfl (by kernel_rfl) (fun _ _ _ _ h => h) rfl rfl hn rfl (q_load rfl rfl (id := 19) rfl Try.underlying3 rfl (at0 (by show 0 + 0 + (q / 8 % 10) * 4 + (q % start.length) * 1 = (q / 8 % 10) * 4 + (q % start.length); omega) (getD_some (by omega))) (seesA (by simp))) ?_
            refine d1q (i := 8) rfl (by kernel_rfl) (fun _ _ _ _ h => h) rfl rfl hn rfl (q_fieldAddr rfl rfl Try.underlying59 rfl sz3) ?_
            refine d1_of_d2 ?_
            refine g_ne_d2 (i := 23) (j := 19) rfl rfl rfl (fun hne23_19 => ?_)
            refine d2_one (i := 9) (by kernel_rfl) rfl (s_store1 rfl rfl rfl rfl rfl rfl (id := 23) rfl sz3 (Nat.le_of_ble_eq_true rfl) rfl (fun e => hne23_19 _ rfl (congrArg some e.symm))) fun _ => ?_
            refine d2_of_d1 ?_
            refine d1_of_d2 ?_
            refine d2_done (by kernel_rfl) ?_
            exact aend_join_on hJ9 () (holdT_anys _) ⟨.inl rfl, trivial⟩ (by repeat (first | exact kr _ | refine kc rfl ?_)) (by repeat (first | exact kr _ | refine kc rfl ?_))
        · rintro _
          refine aend_then ?_
          refine awp_region ?_
          refine sq rfl rfl hn rfl (q_fieldAddr rfl rfl Try.underlying26 rfl sz24) ?_
          refine sq rfl rfl hn rfl (q_load rfl rfl (id := 10) rfl Try.underlying24 rfl rfl sees0) ?_
          refine sq rfl rfl hn rfl (q_loadAd rfl rfl (id := 23) rfl Try.underlying59 rfl sz59 rfl rfl sees0) ?_
          refine stepW (s_buildSlice rfl rfl rfl (nb hn rfl) Try.underlying24 sz59 zr59 rfl rfl rfl (show _ = [.d (.int .i64 0), .d (.int .i64 0), .d (.int .i64 0)] from by kernel_rfl) (by kernel_rfl) rfl (fill_agg (by kernel_rfl) rfl) (allD_d _) (beq_len rfl) (chunk_one rfl)) fun _ => ?_
          refine stepW (s_append (id := 1021) rfl rfl rfl (nb hn rfl) elt24 trivial rfl rfl rfl (by simp; omega) (by simp; omega) (fun b hb => trivial)) fun v198 => ?_
          refine sq rfl rfl hn rfl (q_fieldAddr rfl rfl Try.underlying26 rfl sz24) ?_
          refine stepW (s_storeRow rfl rfl rfl rfl rfl (rid := 1021) rfl (id := 10) rfl sz24 (Nat.le_of_ble_eq_true rfl) rfl trivial) fun _ => ?_
          refine run_nil ?_
          refine aend_block ?_
          refine aend_then ?_
          refine awp_region ?_
          refine sq rfl rfl hn rfl (q_move rfl rfl) ?_
          refine sq rfl rfl hn rfl (q_add rfl rfl rfl (r := ((k + 1 : Nat) : Int)) (i64w (by omega) (by omega))) ?_
          refine sq rfl rfl hn rfl (q_assign rfl rfl) ?_
          refine run_nil ?_
          exact aend_round_on ⟨(k + 1, si ++ [⟨(q % start.length : Nat), houseAt o (q / 8 % 10) (q % start.length), (q / 8 % 10 : Nat)⟩], v198), by simp only; omega, by simp; omega, fun s hs => by rcases List.mem_append.1 hs with hs | hs; exact hsp s hs; rw [List.mem_singleton] at hs; subst hs; exact ⟨⟨by show (0 : Int) ≤ ((q % start.length : Nat) : Int); omega, by show ((q % start.length : Nat) : Int) ≤ _; omega⟩, ⟨by show (0 : Int) ≤ ((q / 8 % 10 : Nat) : Int); omega, by show ((q / 8 % 10 : Nat) : Int) ≤ _; omega⟩, rfl⟩⟩ ⟨.inl rfl, holdT_anys _⟩ ⟨.inl rfl, .inl (congrArg (fun z => some (Res.row v198 59 3 z)) (sights_add (x := ⟨((q % start.length : Nat) : Int), houseAt o (q / 8 % 10) (q % start.length), ((q / 8 % 10 : Nat) : Int)⟩))), holdR_gones _⟩ (by simp only; omega) (by repeat (first | exact kr _ | refine kc rfl ?_)) (by repeat (first | exact kr _ | refine kc rfl ?_))
      · skip
        refine awp_exit ?_
        refine aend_then_exit ?_
        refine aend_then_exit ?_
        refine aend_block_exit ?_
        refine aend_then ?_
        refine awp_seq ?_
        have hst5 := sights_truth v0 rfl T hdl (by rw [ho]; exact hag) (show si.length ≤ 4 by omega) (fun s hs => by rw [ho]; exact hsp s hs)
        refine gh_awp (gh_rowcell (id := 10) (k := 3) (rid := 1021) rfl rfl rfl) ?_
        refine awp_region ?_
        refine sq rfl rfl hn rfl (q_loadAd rfl rfl (id := 10) rfl Try.underlying26 rfl sz26 rfl rfl sees0) ?_
        refine sq rfl rfl hn rfl (q_move rfl rfl) ?_
        refine stepW (s_store rfl rfl rfl rfl rfl rfl (id := 8) rfl sz26 rfl (Nat.le_of_ble_eq_true rfl) rfl trivial) fun _ => ?_
        refine sq rfl rfl hn rfl (q_assign rfl rfl) ?_
        refine run_nil ?_
        refine aend_then ?_
        refine awp_ret ?_
        refine gh_end (g_row (t := 9) (id := 12) rfl rfl) ?_
        exact ret_E (.inl rfl) ⟨(⟨(H : Int), start, es, si⟩, ts), rfl, rfl, hst5.1, ⟨ds, hst5.2⟩, hap_pref hap v hi7 si⟩ (hands_2d rfl (.d (.cellA rfl (id := 8) rfl Try.underlying26 rfl sz26 rfl rfl)) (.tmp rfl)) trivial
end Go.Proofs.Ytnbmmopjkkofoaa
namespace Go.Proofs.Ytnbmmopjkkofoaa
open Go.RowKit
set_option maxRecDepth 20000
set_option linter.all false
theorem play_0 {r : Reg} {l : List Int} (v : Valid r) (h : datedF r.entries l = true) (k : (refPlay r l).2 = true) : playE r l = 0 := by
  rcases play_ref v h with ⟨_, k2⟩ | ⟨ds, k1, _, _, _⟩
  · rw [k] at k2; cases k2
  · simp [playE, checkE_of v, h, k1]
theorem play_good {r : Reg} {l : List Int} (v : Valid r) (h : datedF r.entries l = true) (k : playE r l = 0) : ∃ ds, playDays r l = some ds ∧ ds.length = 10 ∧ ∀ n, n < 10 → Agrees r l (refPlay r l).1 n (ds.getD n 0) := by
  rcases play_ref v h with ⟨k1, _⟩ | ⟨ds, k1, k2, _, k4⟩
  · simp [playE, checkE_of v, h, k1] at k
  · exact ⟨ds, k1, k2, k4⟩
theorem out_get {r : Reg} {ds : List Nat} {s : Nat} (h : s < r.start.length) : (playOut r ds)[s]? = some (ds.map fun d => (placesA r d).getD s 0) := by
  unfold playOut
  rw [List.getElem?_map, List.getElem?_range h]
  rfl
end Go.Proofs.Ytnbmmopjkkofoaa
namespace Go.Proofs.Ytnbmmopjkkofoaa
open Go.RowKit
set_option maxRecDepth 20000
set_option linter.all false
theorem begun_f {n : Int} {l : List Int} (h : (!(decide ((l.length : Int) ≤ 7) && (checkE ⟨n, l, [], []⟩ == 0))) = false) : Valid ⟨n, l, [], []⟩ := by
  simp only [Bool.not_eq_false', Bool.and_eq_true, beq_iff_eq] at h
  exact valid_of h.2
theorem expl_T {r : Reg} (v : Valid r) (h : hasT r) (x : ExplX r) : x.1.2 = 0 ∧ isTruthB r x.1.1 = true := by
  rcases expl_full v x with ⟨_, e, T⟩ | ⟨k, _⟩
  · exact ⟨e, (truth_iff v).2 T⟩
  · exact (k h).elim
theorem had_le (o : List Int) (N s a : Nat) : hadN o N s a ≤ s := by
  unfold hadN
  have := List.countP_le_length (l := List.range s) (p := fun j => houseAt o N j == (a : Int))
  simpa using this
theorem sum_le {f : Nat → Nat} {s : Nat} (h : ∀ a, f a ≤ s) : ∀ n, sumTo f n ≤ n * s
  | 0 => by simp [sumTo]
  | n + 1 => by
    have := sum_le h n
    have := h n
    simp only [sumTo]
    rw [Nat.succ_mul]
    omega
theorem SheetTruth_eff (n : Int) (l : List Int) (words : List Nat) (many on : Nat) (hw5 : ∀ x ∈ words, x < 65536) (hm5 : many < 256) (ho5 : on < 256) : EffAt Try.prog 13 [.d (.int .i64 n), .d (ints l), .d (wordsD words), .d (.int .u8 (many : Nat)), .d (.int .u8 (on : Nat))] [] (X := Unit) (fun _ => .d (.bool true)) (fun _ => []) := by
  refine EffAt.of_awp Try.func13 rfl (by kernel_rfl) rfl fun Γ hn => ?_
  refine awp_seq ?_
  refine awp_region ?_
  refine sq rfl rfl hn rfl (q_assign rfl rfl) ?_
  refine run_nil ?_
  refine aend_then ?_
  refine awp_seq ?_
  refine awp_seq ?_
  refine awp_region ?_
  refine sq rfl rfl hn rfl (q_move rfl rfl) ?_
  refine sq rfl rfl hn rfl (q_move rfl rfl) ?_
  refine stepW (s_call [] (fun _ => begun_ok _ _) rfl (guard_none rfl) rfl (nb hn rfl) (fun _ => trivial) rfl rfl (.refl _)) fun _ => ?_
  refine sq rfl rfl hn rfl (q_not rfl rfl) ?_
  refine run_nil ?_
  refine aend_then ?_
  refine awp_cond rfl (fun hb0 => ?_) (fun hb0 => ?_)
  · skip
    refine awp_seq ?_
    refine awp_region ?_
    refine stepW (s_call [] (fun _ => awake_ok) rfl (guard_none rfl) rfl (nb hn rfl) (fun _ => trivial) rfl rfl (.refl _)) fun _ => ?_
    refine sq rfl rfl hn rfl (q_assign rfl rfl) ?_
    refine run_nil ?_
    refine aend_then ?_
    refine awp_ret ?_
    refine aend_then_ret ?_
    exact ret_E (.inl rfl) () (hands_1 rfl (.tmp rfl)) trivial
  · skip
    have v := begun_f hb0
    obtain ⟨H, rfl⟩ : ∃ H : Nat, n = (H : Int) := ⟨n.toNat, by have : 1 ≤ n := v.h1; omega⟩
    have hs4 : l.length ≤ 4 := v.s4
    have hs1 : 1 ≤ l.length := v.s1
    have hH4 : (H : Int) ≤ 4 := v.h4
    have hH1 : 1 ≤ (H : Int) := v.h1
    refine awp_skip ?_
    refine aend_then ?_
    refine awp_seq ?_
    refine awp_region ?_
    refine sq rfl rfl hn rfl (q_move rfl rfl) ?_
    refine sq rfl rfl hn rfl (q_move rfl rfl) ?_
    refine sq rfl rfl hn rfl (q_move rfl rfl) ?_
    refine sq rfl rfl hn rfl (q_move rfl rfl) ?_
    refine stepW (s_callE (Happened_eff H l words many v hw5 hm5) rfl rfl rfl (nb hn rfl) (.d rfl) rfl (.refl _) trivial (fun _ => rfl) (fun _ _ => trivial)) fun ⟨⟨r, ts⟩, hrH, hrs, vr, ⟨ds, T⟩, hpre⟩ => ?_
    dsimp only at hrH hrs vr T hpre
    subst hrs
    dsimp only
    have hT : hasT r := (goes_truth vr).2 ⟨ts, ds, T⟩
    have hl5 := datedF_len T.dated
    have hv6 := vr.e6
    have hrp := truth_play vr T
    have hout := refPlay_len vr ts
    obtain ⟨N, hN⟩ : ∃ N, on % 10 = N := ⟨_, rfl⟩
    have hN9 : N ≤ 9 := by omega
    obtain ⟨m, hdm, hpair⟩ := truth_pair vr T hN9
    have hEve : Eve r N m := (rch_truth vr hN9).2 ⟨ts, ds, T, hdm⟩
    have hpe := play_0 vr T.dated hrp
    obtain ⟨ds2, hpd, hdl, _⟩ := play_good vr T.dated hpe
    have hds2 : ds2 = ds := Option.some.inj (hpd.symm.trans T.play)
    subst hds2
    have hpl : playL r ts = playOut r ds2 := by rw [playL, hpe, hpd]; rfl
    have hpn : (playOut r ds2).length = r.start.length := by simp [playOut]
    have hpv := prove_of vr T
    obtain ⟨o, ho⟩ : ∃ o, (refPlay r ts).1 = o := ⟨_, rfl⟩
    unfold daysOf at hpair
    rw [ho] at hout hpair
    refine sq rfl rfl hn rfl (q_move rfl rfl) ?_
    refine sq rfl rfl hn rfl (q_extractd rfl rfl rfl) ?_
    refine sq rfl rfl hn rfl (q_extractd rfl rfl rfl) ?_
    refine stepW (s_alloc 11 rfl rfl rfl (nb hn rfl) zr26 rfl rfl) fun b11 => ?_
    refine stepW (s_store rfl rfl rfl rfl rfl rfl (id := 11) rfl sz26 rfl (Nat.le_of_ble_eq_true rfl) rfl trivial) fun _ => ?_
    refine sq rfl rfl hn rfl (q_assign rfl rfl) ?_
    refine run_nil ?_
    refine aend_then ?_
    refine awp_seq ?_
    refine awp_region ?_
    refine sq rfl rfl hn rfl (q_move rfl rfl) ?_
    refine sq rfl rfl hn rfl (q_conv rfl rfl Try.underlying5 Try.underlying3 (r := (on : Int)) (i64w (by omega) rfl)) ?_
    refine sq rfl rfl hn rfl (q_rem rfl rfl rfl (r := ((N : Nat) : Int)) (by omega) (by rw [← hN]; exact modN (b := 10) (by omega))) ?_
    refine sq rfl rfl hn rfl (q_assign rfl rfl) ?_
    refine run_nil ?_
    refine aend_then ?_
    refine awp_seq ?_
    refine awp_region ?_
    refine sq rfl rfl hn rfl (q_loadAd rfl rfl (id := 11) rfl Try.underlying26 rfl sz26 rfl rfl sees0) ?_
    refine sq rfl rfl hn rfl (q_move rfl rfl) ?_
    refine stepW (s_call [] (fun _ => (by have h6 := refPlay_ok r ts vr hl5; rw [hrp, ho] at h6; exact h6)) rfl (guard_none rfl) rfl (nb hn rfl) (fun _ => trivial) rfl rfl (.refl _)) fun _ => ?_
    refine sq rfl rfl hn rfl (q_move rfl rfl) ?_
    refine sq rfl rfl hn rfl (q_extractd rfl rfl rfl) ?_
    refine sq rfl rfl hn rfl (q_extractd rfl rfl rfl) ?_
    refine stepW (s_alloc 14 rfl rfl rfl (nb hn rfl) zr88 (zerosT 200) (by kernel_rfl)) fun b14 => ?_
    refine stepW (s_store rfl rfl rfl rfl rfl rfl (id := 14) rfl sz88 (cells_len hout) (Nat.le_of_ble_eq_true rfl) (store_all (by simp)) trivial) fun _ => ?_
    refine sq rfl rfl hn rfl (q_assign rfl rfl) ?_
    refine run_nil ?_
    refine aend_then ?_
    refine awp_seq ?_
    refine awp_region ?_
    refine sq rfl rfl hn rfl (q_loadAd rfl rfl (id := 11) rfl Try.underlying26 rfl sz26 rfl rfl sees0) ?_
    refine stepW (s_call [] (fun _ => Register_ok r (by have h5 := vr.s4; omega) (by have h5 := vr.e6; omega) (by have h5 := vr.g4; omega)) rfl (guard_none rfl) rfl (nb hn rfl) (fun _ => trivial) rfl rfl (.refl _)) fun _ => ?_
    refine stepW (s_callE (explain_ok r) rfl rfl rfl (nb hn rfl) (.d rfl) rfl (.refl _) trivial (fun _ => rfl) (fun _ _ => trivial)) fun x1 => ?_
    obtain ⟨he1, hti⟩ := expl_T vr hT x1
    rw [he1]
    refine sq rfl rfl hn rfl (q_move rfl rfl) ?_
    refine sq rfl rfl hn rfl (q_extractd rfl rfl rfl) ?_
    refine sq rfl rfl hn rfl (q_extractd rfl rfl rfl) ?_
    refine sq rfl rfl hn rfl (q_assign rfl rfl) ?_
    refine sq rfl rfl hn rfl (q_assign rfl rfl) ?_
    refine run_nil ?_
    refine aend_then ?_
    refine awp_seq ?_
    refine awp_region ?_
    refine sq rfl rfl hn rfl (q_loadAd rfl rfl (id := 11) rfl Try.underlying26 rfl sz26 rfl rfl sees0) ?_
    refine stepW (s_call [] (fun _ => Register_ok r (by have h5 := vr.s4; omega) (by have h5 := vr.e6; omega) (by have h5 := vr.g4; omega)) rfl (guard_none rfl) rfl (nb hn rfl) (fun _ => trivial) rfl rfl (.refl _)) fun _ => ?_
    refine stepW (s_call [] (fun _ => (by have := leave_ok r; rw [(leave_law vr).1, (leave_nil vr).2 hT] at this; exact this)) rfl (guard_none rfl) rfl (nb hn rfl) (fun _ => trivial) rfl rfl (.refl _)) fun _ => ?_
    refine sq rfl rfl hn rfl (q_move rfl rfl) ?_
    refine sq rfl rfl hn rfl (q_extractd rfl rfl rfl) ?_
    refine sq rfl rfl hn rfl (q_extractd rfl rfl rfl) ?_
    refine sq rfl rfl hn rfl (q_assign rfl rfl) ?_
    refine sq rfl rfl hn rfl (q_assign rfl rfl) ?_
    refine run_nil ?_
    refine aend_then ?_
    refine awp_seq ?_
    refine awp_region ?_
    refine sq rfl rfl hn rfl (q_loadAd rfl rfl (id := 11) rfl Try.underlying26 rfl sz26 rfl rfl sees0) ?_
    refine stepW (s_call [] (fun _ => Register_ok r (by have h5 := vr.s4; omega) (by have h5 := vr.e6; omega) (by have h5 := vr.g4; omega)) rfl (guard_none rfl) rfl (nb hn rfl) (fun _ => trivial) rfl rfl (.refl _)) fun _ => ?_
    refine stepW (s_call [] (fun _ => (by have := first_ok r; rw [first_none vr hpre] at this; exact this)) rfl (guard_none rfl) rfl (nb hn rfl) (fun _ => trivial) rfl rfl (.refl _)) fun _ => ?_
    refine sq rfl rfl hn rfl (q_move rfl rfl) ?_
    refine sq rfl rfl hn rfl (q_extractd rfl rfl rfl) ?_
    refine sq rfl rfl hn rfl (q_extractd rfl rfl rfl) ?_
    refine sq rfl rfl hn rfl (q_assign rfl rfl) ?_
    refine sq rfl rfl hn rfl (q_assign rfl rfl) ?_
    refine run_nil ?_
    refine aend_then ?_
    refine awp_seq ?_
    refine awp_region ?_
    refine sq rfl rfl hn rfl (q_loadAd rfl rfl (id := 11) rfl Try.underlying26 rfl sz26 rfl rfl sees0) ?_
    refine stepW (s_call [] (fun _ => Register_ok r (by have h5 := vr.s4; omega) (by have h5 := vr.e6; omega) (by have h5 := vr.g4; omega)) rfl (guard_none rfl) rfl (nb hn rfl) (fun _ => trivial) rfl rfl (.refl _)) fun _ => ?_
    refine sq rfl rfl hn rfl (q_move rfl rfl) ?_
    refine stepW (s_call [] (fun _ => list_ok ts (by omega)) rfl (guard_none rfl) rfl (nb hn rfl) (fun _ => trivial) rfl rfl (.refl _)) fun _ => ?_
    refine stepW (s_call [] (fun _ => (by have := Play_ok r ts; rw [hpe, hpl] at this; exact this)) rfl (guard_none rfl) rfl (nb hn rfl) (fun _ => trivial) rfl rfl (.refl _)) fun _ => ?_
    refine sq rfl rfl hn rfl (q_move rfl rfl) ?_
    refine sq rfl rfl hn rfl (q_extractd rfl rfl rfl) ?_
    refine sq rfl rfl hn rfl (q_extractd rfl rfl rfl) ?_
    refine sq rfl rfl hn rfl (q_assign rfl rfl) ?_
    refine sq rfl rfl hn rfl (q_assign rfl rfl) ?_
    refine run_nil ?_
    refine aend_then ?_
    refine awp_seq ?_
    refine awp_seq ?_
    refine awp_region ?_
    refine sq rfl rfl hn rfl (q_move rfl rfl) ?_
    refine sq rfl rfl hn rfl (q_not rfl rfl) ?_
    refine sq rfl rfl hn rfl (q_move rfl rfl) ?_
    refine stepG [] (guard_some rfl rfl rfl) rfl (nb hn rfl) (fun hc => trivial) (fun hc => q_move rfl rfl) ?_
    refine stepG [(86, _)] (guard_some rfl rfl rfl) rfl (nb hn rfl) (fun hc => ⟨⟨_, rfl, hc⟩, trivial⟩) (fun hc => q_neq rfl rfl rfl) ?_
    refine sq rfl rfl hn rfl (q_or rfl rfl rfl (by intro hB; first | (rw [hB]; rfl) | (rw [hB, hc]; rfl) | simp_all)) ?_
    refine sq rfl rfl hn rfl (q_move rfl rfl) ?_
    refine stepG [] (guard_some rfl rfl rfl) rfl (nb hn rfl) (fun hc => trivial) (fun hc => q_loadAd rfl rfl (id := 11) rfl Try.underlying26 rfl sz26 rfl rfl sees0) ?_
    refine stepG [] (guard_some rfl rfl rfl) rfl (nb hn rfl) (fun hc => trivial) (fun hc => q_move rfl rfl) ?_
    refine stepW (s_call [(90, _), (91, _)] (fun hc => IsTruth_ok r x1.1.1 vr) rfl (guard_some rfl rfl rfl) rfl (nb hn rfl) (fun hc => ⟨⟨_, rfl, hc⟩, ⟨_, rfl, hc⟩, trivial⟩) rfl rfl (.refl _)) fun _ => ?_
    refine stepG [(92, _)] (guard_some rfl rfl rfl) rfl (nb hn rfl) (fun hc => ⟨⟨_, rfl, hc⟩, trivial⟩) (fun hc => q_not rfl rfl) ?_
    refine sq rfl rfl hn rfl (q_or rfl rfl rfl (by intro hB; first | (rw [hB]; rfl) | (rw [hB, hc]; rfl) | simp_all)) ?_
    refine sq rfl rfl hn rfl (q_move rfl rfl) ?_
    refine stepG [] (guard_some rfl rfl rfl) rfl (nb hn rfl) (fun hc => trivial) (fun hc => q_move rfl rfl) ?_
    refine stepG [(96, _)] (guard_some rfl rfl rfl) rfl (nb hn rfl) (fun hc => ⟨⟨_, rfl, hc⟩, trivial⟩) (fun hc => q_neq rfl rfl rfl) ?_
    refine sq rfl rfl hn rfl (q_or rfl rfl rfl (by intro hB; first | (rw [hB]; rfl) | (rw [hB, hc]; rfl) | simp_all)) ?_
    refine sq rfl rfl hn rfl (q_move rfl rfl) ?_
    refine stepG [] (guard_some rfl rfl rfl) rfl (nb hn rfl) (fun hc => trivial) (fun hc => q_move rfl rfl) ?_
    refine stepG [(100, _)] (guard_some rfl rfl rfl) rfl (nb hn rfl) (fun hc => ⟨⟨_, rfl, hc⟩, trivial⟩) (fun hc => q_len rfl rfl Try.underlying22) ?_
    refine stepG [(101, _)] (guard_some rfl rfl rfl) rfl (nb hn rfl) (fun hc => ⟨⟨_, rfl, hc⟩, trivial⟩) (fun hc => q_neq rfl rfl rfl) ?_
    refine sq rfl rfl hn rfl (q_or rfl rfl rfl (by intro hB; first | (rw [hB]; rfl) | (rw [hB, hc]; rfl) | simp_all)) ?_
    refine sq rfl rfl hn rfl (q_move rfl rfl) ?_
    refine stepG [] (guard_some rfl rfl rfl) rfl (nb hn rfl) (fun hc => trivial) (fun hc => q_move rfl rfl) ?_
    refine stepG [(105, _)] (guard_some rfl rfl rfl) rfl (nb hn rfl) (fun hc => ⟨⟨_, rfl, hc⟩, trivial⟩) (fun hc => q_neq rfl rfl rfl) ?_
    refine sq rfl rfl hn rfl (q_or rfl rfl rfl (by intro hB; first | (rw [hB]; rfl) | (rw [hB, hc]; rfl) | simp_all)) ?_
    refine sq rfl rfl hn rfl (q_move rfl rfl) ?_
    refine stepG [] (guard_some rfl rfl rfl) rfl (nb hn rfl) (fun hc => trivial) (fun hc => q_move rfl rfl) ?_
    refine stepG [(109, _)] (guard_some rfl rfl rfl) rfl (nb hn rfl) (fun hc => ⟨⟨_, rfl, hc⟩, trivial⟩) (fun hc => q_neq rfl rfl rfl) ?_
    refine sq rfl rfl hn rfl (q_or rfl rfl rfl (by intro hB; first | (rw [hB]; rfl) | (rw [hB, hc]; rfl) | simp_all)) ?_
    refine sq rfl rfl hn rfl (q_move rfl rfl) ?_
    refine stepG [] (guard_some rfl rfl rfl) rfl (nb hn rfl) (fun hc => trivial) (fun hc => q_move rfl rfl) ?_
    refine stepG [(113, _)] (guard_some rfl rfl rfl) rfl (nb hn rfl) (fun hc => ⟨⟨_, rfl, hc⟩, trivial⟩) (fun hc => q_len rfl rfl Try.underlying77) ?_
    refine stepG [] (guard_some rfl rfl rfl) rfl (nb hn rfl) (fun hc => trivial) (fun hc => q_move rfl rfl) ?_
    refine stepG [(115, _)] (guard_some rfl rfl rfl) rfl (nb hn rfl) (fun hc => ⟨⟨_, rfl, hc⟩, trivial⟩) (fun hc => q_len rfl rfl Try.underlying22) ?_
    refine stepG [(114, _), (116, _)] (guard_some rfl rfl rfl) rfl (nb hn rfl) (fun hc => ⟨⟨_, rfl, hc⟩, ⟨_, rfl, hc⟩, trivial⟩) (fun hc => q_neq rfl rfl rfl) ?_
    refine sq rfl rfl hn rfl (q_or rfl rfl rfl (by intro hB; first | (rw [hB]; rfl) | (rw [hB, hc]; rfl) | simp_all)) ?_
    refine sq rfl rfl hn rfl (q_move rfl rfl) ?_
    refine stepG [] (guard_some rfl rfl rfl) rfl (nb hn rfl) (fun hc => trivial) (fun hc => q_loadAd rfl rfl (id := 11) rfl Try.underlying26 rfl sz26 rfl rfl sees0) ?_
    refine stepW (s_call [(120, _)] (fun hc => Register_ok r (by have h5 := vr.s4; omega) (by have h5 := vr.e6; omega) (by have h5 := vr.g4; omega)) rfl (guard_some rfl rfl rfl) rfl (nb hn rfl) (fun hc => ⟨⟨_, rfl, hc⟩, trivial⟩) rfl rfl (.refl _)) fun _ => ?_
    refine stepG [] (guard_some rfl rfl rfl) rfl (nb hn rfl) (fun hc => trivial) (fun hc => q_move rfl rfl) ?_
    refine stepW (s_call [(122, _)] (fun hc => list_ok ts (by omega)) rfl (guard_some rfl rfl rfl) rfl (nb hn rfl) (fun hc => ⟨⟨_, rfl, hc⟩, trivial⟩) rfl rfl (.refl _)) fun _ => ?_
    refine stepW (s_call [(121, _), (123, _)] (fun hc => ProveTruth_ok r ts) rfl (guard_some rfl rfl rfl) rfl (nb hn rfl) (fun hc => ⟨⟨_, rfl, hc⟩, ⟨_, rfl, hc⟩, trivial⟩) rfl rfl (.refl _)) fun _ => ?_
    refine stepG [(124, _)] (guard_some rfl rfl rfl) rfl (nb hn rfl) (fun hc => ⟨⟨_, rfl, hc⟩, trivial⟩) (fun hc => q_not rfl rfl) ?_
    refine sq rfl rfl hn rfl (q_or rfl rfl rfl (by intro hB; first | (rw [hB]; rfl) | (rw [hB, hc]; rfl) | simp_all)) ?_
    refine run_nil ?_
    refine aend_then ?_
    refine awp_cond rfl (fun hb1 => ?_) (fun hb1 => ?_)
    · skip
      exfalso; simp [hti, hpv, hpn] at hb1
    · skip
      refine awp_skip ?_
      refine aend_then ?_
      refine awp_seq ?_
      refine awp_region ?_
      refine stepW (s_alloc 24 rfl rfl rfl (nb hn rfl) zr83 (show _ = (hadL o N 0).map intT from rfl) rfl) fun b24 => ?_
      refine run_nil ?_
      refine aend_then ?_
      refine awp_seq ?_
      refine awp_seq ?_
      refine awp_region ?_
      refine sq rfl rfl hn rfl (q_assign rfl rfl) ?_
      refine run_nil ?_
      refine aend_then ?_
      refine awp_block ?_
      refine awp_loop_on (ι := {s : Nat // s ≤ r.start.length}) (fun x => (25, true, .d (.int .i64 (x.1 : Nat))) :: anys [127, 128, 129, 130, 134, 135, 136, 137, 138, 133, 139, 140, 26, 27, 141, 142, 143, 144, 145, 146, 147, 148, 149, 150, 151, 152, 153, 154, 155, 156, 157, 158, 159, 160, 161, 162, 163, 164, 165, 166, 167, 168, 169, 170, 171, 172, 173, 174, 175, 176, 177, 178, 179, 180, 181, 182, 183, 184, 185, 186, 187, 131, 132]) (fun x => [(24, .box b24 83 ((hadL o N x.1).map intT))]) (fun x => r.start.length - x.1) ⟨0, Nat.zero_le _⟩ ⟨.inl rfl, holdT_anys _⟩ ⟨.inl rfl, trivial⟩ ?_
      rintro ⟨s, hs⟩
      dsimp only
      refine awp_seq ?_
      refine awp_seq ?_
      refine awp_region ?_
      refine sq rfl rfl hn rfl (q_move rfl rfl) ?_
      refine sq rfl rfl hn rfl (q_move rfl rfl) ?_
      refine sq rfl rfl hn rfl (q_len rfl rfl Try.underlying22) ?_
      refine sq rfl rfl hn rfl (q_lss rfl rfl rfl) ?_
      refine run_nil ?_
      refine aend_then ?_
      refine awp_cond rfl (fun hb2 => ?_) (fun hb2 => ?_)
      · skip
        have hlt : s < r.start.length := by simp at hb2; omega
        have hrow := out_get (r := r) (ds := ds2) hlt
        have hcell := hpair.1 s (by omega)
        have hpr := hpair.2.2 s hlt
        obtain ⟨h, hh⟩ : ∃ h : Nat, houseAt o N s = (h : Int) := ⟨(houseAt o N s).toNat, by omega⟩
        have hhH : h < H := by omega
        have hlen4 := hadL_len o N s
        have hhb : 0 ≤ (hadL o N s).getD h 0 ∧ (hadL o N s).getD h 0 ≤ 4 := by have := had_le o N s h; rw [hadL_get (by omega)]; omega
        refine awp_skip ?_
        refine aend_then ?_
        refine awp_seq ?_
        refine awp_block ?_
        refine awp_seq ?_
        refine awp_region ?_
        refine sq rfl rfl hn rfl (q_loadAd rfl rfl (id := 11) rfl Try.underlying26 rfl sz26 rfl rfl sees0) ?_
        refine stepW (s_call [] (fun _ => Register_ok r (by have h5 := vr.s4; omega) (by have h5 := vr.e6; omega) (by have h5 := vr.g4; omega)) rfl (guard_none rfl) rfl (nb hn rfl) (fun _ => trivial) rfl rfl (.refl _)) fun _ => ?_
        refine sq rfl rfl hn rfl (q_move rfl rfl) ?_
        refine sq rfl rfl hn rfl (q_move rfl rfl) ?_
        refine stepW (s_callE (Holders_eff r (s : Nat) (N : Nat)) rfl rfl rfl (nb hn rfl) (.d rfl) rfl (.refl _) trivial (fun _ => rfl) (fun _ _ => trivial)) fun x2 => ?_
        obtain ⟨he2, hv2_, hne2⟩ := wantE_0 vr hT (sheetB_of (by omega) (by omega)) (by omega) x2.2
        rw [he2]
        have hhas : hasB (holdR r (s : Nat) x2.1.1) ((placesA r m).getD s 0) = true := hasB_mem.2 ((hold_mem hv2_).2 ⟨m, hEve, rfl⟩)
        refine sq rfl rfl hn rfl (q_move rfl rfl) ?_
        refine sq rfl rfl hn rfl (q_extractd rfl rfl rfl) ?_
        refine sq rfl rfl hn rfl (q_extractd rfl rfl rfl) ?_
        refine sq rfl rfl hn rfl (q_assign rfl rfl) ?_
        refine sq rfl rfl hn rfl (q_assign rfl rfl) ?_
        refine run_nil ?_
        refine aend_then ?_
        refine awp_seq ?_
        refine awp_seq ?_
        refine d_start (W := fun b => b ≠ b14) fmo ?_
        refine d1q (i := 0) rfl (by kernel_rfl) (fun _ _ _ _ h => h) rfl rfl hn rfl (q_move rfl rfl) ?_
        refine d1q (i := 1) rfl (by kernel_rfl) (fun _ _ _ _ h => h) rfl rfl hn rfl (q_neq rfl rfl rfl) ?_
        refine d1q (i := 2) rfl (by kernel_rfl) (fun _ _ _ _ h => h) rfl rfl hn rfl (q_move rfl rfl) ?_
        refine d1g (i := 3) [] rfl (by kernel_rfl) (fun _ _ _ _ h => h) (guard_some rfl rfl rfl) rfl hn rfl (fun hc => trivial) (fun hc => q_move rfl rfl) ?_
        refine d1g (i := 4) [] rfl (by kernel_rfl) (fun _ _ _ _ h => h) (guard_some rfl rfl rfl) rfl hn rfl (fun hc => trivial) (fun hc => q_move rfl rfl) ?_
        refine d1g (i := 5) [(144, _), (145, _)] rfl (by kernel_rfl) (fun _ _ _ _ h => h) (guard_some rfl rfl rfl) rfl hn rfl (fun hc => ⟨⟨_, rfl, hc⟩, ⟨_, rfl, hc⟩, trivial⟩) (fun hc => q_index rfl rfl rfl Try.underlying77 sz22 rfl (mget hrow)) ?_
        refine d1g (i := 6) [(146, _)] rfl (by kernel_rfl) (fun _ _ _ _ h => h) (guard_some rfl rfl rfl) rfl hn rfl (fun hc => ⟨⟨_, rfl, hc⟩, trivial⟩) (fun hc => q_loadp rfl rfl Try.underlying22 rfl seesFA) ?_
        refine d1g (i := 7) [(147, _)] rfl (by kernel_rfl) (fun _ _ _ _ h => h) (guard_some rfl rfl rfl) rfl hn rfl (fun hc => ⟨⟨_, rfl, hc⟩, trivial⟩) (fun hc => q_len rfl rfl Try.underlying22) ?_
        refine d1g (i := 8) [(148, _)] rfl (by kernel_rfl) (fun _ _ _ _ h => h) (guard_some rfl rfl rfl) rfl hn rfl (fun hc => ⟨⟨_, rfl, hc⟩, trivial⟩) (fun hc => q_neq rfl rfl rfl) ?_
        refine d1q (i := 9) rfl (by kernel_rfl) (fun _ _ _ _ h => h) rfl rfl hn rfl (q_or rfl rfl rfl (by intro hB; first | (rw [hB]; rfl) | (rw [hB, hc]; rfl) | simp_all)) ?_
        refine d1q (i := 10) rfl (by kernel_rfl) (fun _ _ _ _ h => h) rfl rfl hn rfl (q_move rfl rfl) ?_
        refine d1g (i := 11) [] rfl (by kernel_rfl) (fun _ _ _ _ h => h) (guard_some rfl rfl rfl) rfl hn rfl (fun hc => trivial) (fun hc => q_move rfl rfl) ?_
        refine d1g (i := 12) [] rfl (by kernel_rfl) (fun _ _ _ _ h => h) (guard_some rfl rfl rfl) rfl hn rfl (fun hc => trivial) (fun hc => q_move rfl rfl) ?_
        refine d1g (i := 13) [(152, _), (153, _)] rfl (by kernel_rfl) (fun _ _ _ _ h => h) (guard_some rfl rfl rfl) rfl hn rfl (fun hc => ⟨⟨_, rfl, hc⟩, ⟨_, rfl, hc⟩, trivial⟩) (fun hc => q_index rfl rfl rfl Try.underlying77 sz22 rfl (mget hrow)) ?_
        refine d1g (i := 14) [(154, _)] rfl (by kernel_rfl) (fun _ _ _ _ h => h) (guard_some rfl rfl rfl) rfl hn rfl (fun hc => ⟨⟨_, rfl, hc⟩, trivial⟩) (fun hc => q_loadp rfl rfl Try.underlying22 rfl seesFA) ?_
        refine d1g (i := 15) [] rfl (by kernel_rfl) (fun _ _ _ _ h => h) (guard_some rfl rfl rfl) rfl hn rfl (fun hc => trivial) (fun hc => q_move rfl rfl) ?_
        refine d1g (i := 16) [(155, _), (156, _)] rfl (by kernel_rfl) (fun _ _ _ _ h => h) (guard_some rfl rfl rfl) rfl hn rfl (fun hc => ⟨⟨_, rfl, hc⟩, ⟨_, rfl, hc⟩, trivial⟩) (fun hc => q_index rfl rfl rfl Try.underlying22 sz3 rfl (mget (mget hdm))) ?_
        refine d1g (i := 17) [(157, _)] rfl (by kernel_rfl) (fun _ _ _ _ h => h) (guard_some rfl rfl rfl) rfl hn rfl (fun hc => ⟨⟨_, rfl, hc⟩, trivial⟩) (fun hc => q_loadp rfl rfl Try.underlying3 rfl seesFA) ?_
        refine d1g (i := 18) [] rfl (by kernel_rfl) (fun _ _ _ _ h => h) (guard_some rfl rfl rfl) rfl hn rfl (fun hc => trivial) (fun hc => q_move rfl rfl) ?_
        refine d1g (i := 19) [] rfl (by kernel_rfl) (fun _ _ _ _ h => h) (guard_some rfl rfl rfl) rfl hn rfl (fun hc => trivial) (fun hc => q_move rfl rfl) ?_
        refine d1g (i := 20) [] rfl (by kernel_rfl) (fun _ _ _ _ h => h) (guard_some rfl rfl rfl) rfl hn rfl (fun hc => trivial) (fun hc => q_fieldAddr rfl rfl Try.underlying88 rfl sz84) ?_
        refine d1g (i := 21) [(161, _), (159, _)] rfl (by kernel_rfl) (fun _ _ _ _ h => h) (guard_some rfl rfl rfl) rfl hn rfl (fun hc => ⟨⟨_, rfl, hc⟩, ⟨_, rfl, hc⟩, trivial⟩) (fun hc => q_indexA (i := N) rfl rfl rfl Try.underlying84 sz83 rfl (by omega)) ?_
        refine d1g (i := 22) [(162, _), (160, _)] rfl (by kernel_rfl) (fun _ _ _ _ h => h) (guard_some rfl rfl rfl) rfl hn rfl (fun hc => ⟨⟨_, rfl, hc⟩, ⟨_, rfl, hc⟩, trivial⟩) (fun hc => q_indexA (i := s) rfl rfl rfl Try.underlying83 sz3 rfl (by omega)) ?_
        refine d1g (i := 23) [(163, _)] rfl (by kernel_rfl) (fun _ _ _ _ h => h) (guard_some rfl rfl rfl) rfl hn rfl (fun hc => ⟨⟨_, rfl, hc⟩, trivial⟩) (fun hc => q_load rfl rfl (id := 14) rfl Try.underlying3 rfl (at0 (by show 0 + 0 + N * 4 + s * 1 = N * 4 + s; omega) (getD_some (by omega))) (seesA (by simp))) ?_
        refine d1g (i := 24) [(158, _), (164, _)] rfl (by kernel_rfl) (fun _ _ _ _ h => h) (guard_some rfl rfl rfl) rfl hn rfl (fun hc => ⟨⟨_, rfl, hc⟩, ⟨_, rfl, hc⟩, trivial⟩) (fun hc => q_neq rfl rfl rfl) ?_
        refine d1q (i := 25) rfl (by kernel_rfl) (fun _ _ _ _ h => h) rfl rfl hn rfl (q_or rfl rfl rfl (by intro hB; first | (rw [hB]; rfl) | (rw [hB, hc]; rfl) | simp_all)) ?_
        refine d1q (i := 26) rfl (by kernel_rfl) (fun _ _ _ _ h => h) rfl rfl hn rfl (q_move rfl rfl) ?_
        refine d1g (i := 27) [] rfl (by kernel_rfl) (fun _ _ _ _ h => h) (guard_some rfl rfl rfl) rfl hn rfl (fun hc => trivial) (fun hc => q_move rfl rfl) ?_
        refine d1g (i := 28) [] rfl (by kernel_rfl) (fun _ _ _ _ h => h) (guard_some rfl rfl rfl) rfl hn rfl (fun hc => trivial) (fun hc => q_move rfl rfl) ?_
        refine d1g (i := 29) [] rfl (by kernel_rfl) (fun _ _ _ _ h => h) (guard_some rfl rfl rfl) rfl hn rfl (fun hc => trivial) (fun hc => q_move rfl rfl) ?_
        refine d1g (i := 30) [] rfl (by kernel_rfl) (fun _ _ _ _ h => h) (guard_some rfl rfl rfl) rfl hn rfl (fun hc => trivial) (fun hc => q_fieldAddr rfl rfl Try.underlying88 rfl sz84) ?_
        refine d1g (i := 31) [(171, _), (169, _)] rfl (by kernel_rfl) (fun _ _ _ _ h => h) (guard_some rfl rfl rfl) rfl hn rfl (fun hc => ⟨⟨_, rfl, hc⟩, ⟨_, rfl, hc⟩, trivial⟩) (fun hc => q_indexA (i := N) rfl rfl rfl Try.underlying84 sz83 rfl (by omega)) ?_
        refine d1g (i := 32) [(172, _), (170, _)] rfl (by kernel_rfl) (fun _ _ _ _ h => h) (guard_some rfl rfl rfl) rfl hn rfl (fun hc => ⟨⟨_, rfl, hc⟩, ⟨_, rfl, hc⟩, trivial⟩) (fun hc => q_indexA (i := s) rfl rfl rfl Try.underlying83 sz3 rfl (by omega)) ?_
        refine d1g (i := 33) [(173, _)] rfl (by kernel_rfl) (fun _ _ _ _ h => h) (guard_some rfl rfl rfl) rfl hn rfl (fun hc => ⟨⟨_, rfl, hc⟩, trivial⟩) (fun hc => q_load rfl rfl (id := 14) rfl Try.underlying3 rfl (at0 (by show 0 + 0 + N * 4 + s * 1 = N * 4 + s; omega) (getD_some (by omega))) (seesA (by simp))) ?_
        refine d1_of_d2 ?_
        refine d2_one (i := 34) (by kernel_rfl) rfl (s_call [(168, _), (174, _)] (fun hc => has5_ok _ _) rfl (guard_some rfl rfl rfl) rfl (nb hn rfl) (fun hc => ⟨⟨_, rfl, hc⟩, ⟨_, rfl, hc⟩, trivial⟩) rfl rfl (.refl _)) fun _ => ?_
        refine d2_of_d1 ?_
        refine d1g (i := 35) [(175, _)] rfl (by kernel_rfl) (fun _ _ _ _ h => h) (guard_some rfl rfl rfl) rfl hn rfl (fun hc => ⟨⟨_, rfl, hc⟩, trivial⟩) (fun hc => q_not rfl rfl) ?_
        refine d1q (i := 36) rfl (by kernel_rfl) (fun _ _ _ _ h => h) rfl rfl hn rfl (q_or rfl rfl rfl (by intro hB; first | (rw [hB]; rfl) | (rw [hB, hc]; rfl) | simp_all)) ?_
        refine d1_of_d2 ?_
        refine d2_done (by kernel_rfl) ?_
        refine aend_then ?_
        refine awp_cond rfl (fun hb3 => ?_) (fun hb3 => ?_)
        · skip
          exact absurd hb3 (by rw [show o.getD (N * 4 + s) 0 = (placesA r m).getD s 0 from hcell, hhas]; simp [hdl])
        · skip
          refine awp_skip ?_
          refine aend_then ?_
          refine awp_region ?_
          refine sq rfl rfl hn rfl (q_move rfl rfl) ?_
          refine sq rfl rfl hn rfl (q_move rfl rfl) ?_
          refine sq rfl rfl hn rfl (q_fieldAddr rfl rfl Try.underlying88 rfl sz84) ?_
          refine sq rfl rfl hn rfl (q_indexA (i := N) rfl rfl rfl Try.underlying84 sz83 rfl (by omega)) ?_
          refine sq rfl rfl hn rfl (q_indexA (i := s) rfl rfl rfl Try.underlying83 sz3 rfl (by omega)) ?_
          refine sq rfl rfl hn rfl (q_load rfl rfl (id := 14) rfl Try.underlying3 rfl (at0 (by show 0 + 0 + N * 4 + s * 1 = N * 4 + s; omega) (getD_some (by omega))) sees0) ?_
          refine sq rfl rfl hn rfl (q_indexA (i := h) rfl rfl rfl Try.underlying83 sz3 hh (by omega)) ?_
          refine sq rfl rfl hn rfl (q_load rfl rfl (id := 24) rfl Try.underlying3 rfl (at1 (getD_some (by omega))) sees0) ?_
          refine sq rfl rfl hn rfl (q_add rfl rfl rfl (r := (hadL o N s).getD h 0 + 1) (i64w (by omega) rfl)) ?_
          refine sq rfl rfl hn rfl (q_indexA (i := h) rfl rfl rfl Try.underlying83 sz3 hh (by omega)) ?_
          refine stepW (s_store1 rfl rfl rfl rfl rfl rfl (id := 24) rfl sz3 (by simp; omega) (set1.trans (congrArg _ (hadL_step hh (by omega)))) trivial) fun _ => ?_
          refine run_nil ?_
          refine aend_block ?_
          refine aend_then ?_
          refine awp_region ?_
          refine sq rfl rfl hn rfl (q_move rfl rfl) ?_
          refine sq rfl rfl hn rfl (q_add rfl rfl rfl (r := ((s + 1 : Nat) : Int)) (i64w (by omega) (by omega))) ?_
          refine sq rfl rfl hn rfl (q_assign rfl rfl) ?_
          refine run_nil ?_
          exact aend_round_on ⟨s + 1, by omega⟩ ⟨.inl rfl, holdT_anys _⟩ ⟨.inl rfl, trivial⟩ (by simp only; omega) (by repeat (first | exact kr _ | refine kc rfl ?_)) (by repeat (first | exact kr _ | refine kc rfl ?_))
      · skip
        have hse : s = r.start.length := by simp at hb2; omega
        subst hse
        refine awp_exit ?_
        refine aend_then_exit ?_
        refine aend_then_exit ?_
        refine aend_block_exit ?_
        refine aend_then ?_
        refine awp_seq ?_
        refine awp_region ?_
        refine sq rfl rfl hn rfl (q_assign rfl rfl) ?_
        refine run_nil ?_
        refine aend_then ?_
        refine awp_seq ?_
        refine awp_seq ?_
        refine awp_region ?_
        refine sq rfl rfl hn rfl (q_assign rfl rfl) ?_
        refine run_nil ?_
        refine aend_then ?_
        refine awp_block ?_
        have hsum := sum_had (o := o) (N := N) (H := H) (s := r.start.length) (fun j hj => by have h1 := hpair.1 j (by omega); have h2 := hpair.2.2 j hj; rw [h1]; omega)
        refine awp_loop_on (ι := {a : Nat // a ≤ H}) (fun x => (28, true, .d (.int .i64 (sumTo (hadN o N r.start.length) x.1 : Nat))) :: (29, true, .d (.int .i64 (x.1 : Nat))) :: anys [188, 189, 190, 194, 195, 196, 197, 198, 193, 199, 200, 30, 31, 201, 202, 203, 204, 205, 206, 207, 208, 209, 210, 211, 212, 213, 214, 215, 216, 217, 218, 219, 220, 221, 222, 223, 32, 224, 225, 226, 230, 231, 232, 233, 234, 235, 229, 236, 237, 33, 34, 238, 239, 240, 241, 242, 243, 244, 245, 246, 247, 248, 249, 250, 251, 252, 253, 254, 255, 256, 257, 258, 259, 260, 261, 262, 263, 264, 265, 266, 267, 268, 269, 270, 271, 272, 273, 274, 275, 276, 277, 278, 279, 280, 227, 228, 191, 192]) (fun x => gones [30, 33]) (fun x => H - x.1) ⟨0, Nat.zero_le _⟩ ⟨.inl rfl, .inl rfl, holdT_anys _⟩ (holdR_gones _) ?_
        rintro ⟨a, ha⟩
        dsimp only
        refine awp_seq ?_
        refine awp_seq ?_
        refine awp_region ?_
        refine sq rfl rfl hn rfl (q_move rfl rfl) ?_
        refine sq rfl rfl hn rfl (q_move rfl rfl) ?_
        refine sq rfl rfl hn rfl (q_lss rfl rfl rfl) ?_
        refine run_nil ?_
        refine aend_then ?_
        refine awp_cond rfl (fun hb4 => ?_) (fun hb4 => ?_)
        · skip
          have haH : a < H := by simp at hb4; omega
          have hlen4 := hadL_len o N r.start.length
          have hva : (hadL o N r.start.length).getD a 0 = (heldN r m (a : Int) : Int) := by rw [hadL_get (by omega)]; exact had_held vr hpair
          have hsb := sum_le (f := hadN o N r.start.length) (s := r.start.length) (fun j => had_le o N _ j) (a + 1)
          have hsc : sumTo (hadN o N r.start.length) (a + 1) ≤ 16 := Nat.le_trans hsb (Nat.le_trans (Nat.mul_le_mul (show a + 1 ≤ 4 by omega) hs4) (by omega))
          have hse : (sumTo (hadN o N r.start.length) (a + 1) : Int) = sumTo (hadN o N r.start.length) a + (hadL o N r.start.length).getD a 0 := by rw [hadL_get (by omega)]; rfl
          refine awp_skip ?_
          refine aend_then ?_
          refine awp_seq ?_
          refine awp_block ?_
          refine awp_seq ?_
          refine awp_region ?_
          refine sq rfl rfl hn rfl (q_loadAd rfl rfl (id := 11) rfl Try.underlying26 rfl sz26 rfl rfl sees0) ?_
          refine stepW (s_call [] (fun _ => Register_ok r (by have h5 := vr.s4; omega) (by have h5 := vr.e6; omega) (by have h5 := vr.g4; omega)) rfl (guard_none rfl) rfl (nb hn rfl) (fun _ => trivial) rfl rfl (.refl _)) fun _ => ?_
          refine sq rfl rfl hn rfl (q_move rfl rfl) ?_
          refine sq rfl rfl hn rfl (q_move rfl rfl) ?_
          refine stepW (s_callE (InHand_eff r (a : Nat) (N : Nat)) rfl rfl rfl (nb hn rfl) (.d rfl) rfl (.refl _) trivial (fun _ => rfl) (fun _ _ => trivial)) fun x3 => ?_
          obtain ⟨he3, hv3_, hne3⟩ := wantE_0 vr hT (houseB_of vr (by omega) (by omega)) (by omega) x3.2
          rw [he3]
          have hr3 := (held_rng (a := (a : Int)) hv3_ hne3).1 m hEve
          refine sq rfl rfl hn rfl (q_move rfl rfl) ?_
          refine sq rfl rfl hn rfl (q_extractd rfl rfl rfl) ?_
          refine sq rfl rfl hn rfl (q_extractd rfl rfl rfl) ?_
          refine stepW (s_alloc 30 rfl rfl rfl (nb hn rfl) zr45 rfl rfl) fun b30 => ?_
          refine stepW (s_store rfl rfl rfl rfl rfl rfl (id := 30) rfl sz45 rfl (Nat.le_of_ble_eq_true rfl) rfl trivial) fun _ => ?_
          refine sq rfl rfl hn rfl (q_assign rfl rfl) ?_
          refine run_nil ?_
          refine aend_then ?_
          refine awp_seq ?_
          refine awp_seq ?_
          refine d_start (W := fun b => b ≠ b24 ∧ b ≠ b30) fmo ?_
          refine d1q (i := 0) rfl (by kernel_rfl) (fun _ _ _ _ h => h) rfl rfl hn rfl (q_move rfl rfl) ?_
          refine d1q (i := 1) rfl (by kernel_rfl) (fun _ _ _ _ h => h) rfl rfl hn rfl (q_neq rfl rfl rfl) ?_
          refine d1q (i := 2) rfl (by kernel_rfl) (fun _ _ _ _ h => h) rfl rfl hn rfl (q_move rfl rfl) ?_
          refine d1g (i := 3) [] rfl (by kernel_rfl) (fun _ _ _ _ h => h) (guard_some rfl rfl rfl) rfl hn rfl (fun hc => trivial) (fun hc => q_move rfl rfl) ?_
          refine d1g (i := 4) [(204, _)] rfl (by kernel_rfl) (fun _ _ _ _ h => h) (guard_some rfl rfl rfl) rfl hn rfl (fun hc => ⟨⟨_, rfl, hc⟩, trivial⟩) (fun hc => q_indexA (i := a) rfl rfl rfl Try.underlying83 sz3 rfl (by omega)) ?_
          refine d1g (i := 5) [(205, _)] rfl (by kernel_rfl) (fun _ _ _ _ h => h) (guard_some rfl rfl rfl) rfl hn rfl (fun hc => ⟨⟨_, rfl, hc⟩, trivial⟩) (fun hc => q_load rfl rfl (id := 24) rfl Try.underlying3 rfl (at1 (getD_some (by omega))) (seesA (by simp))) ?_
          refine d1g (i := 6) [] rfl (by kernel_rfl) (fun _ _ _ _ h => h) (guard_some rfl rfl rfl) rfl hn rfl (fun hc => trivial) (fun hc => q_fieldAddr rfl rfl Try.underlying45 rfl sz3) ?_
          refine d1g (i := 7) [(207, _)] rfl (by kernel_rfl) (fun _ _ _ _ h => h) (guard_some rfl rfl rfl) rfl hn rfl (fun hc => ⟨⟨_, rfl, hc⟩, trivial⟩) (fun hc => q_load rfl rfl (id := 30) rfl Try.underlying3 rfl rfl (seesA (by simp))) ?_
          refine d1g (i := 8) [(206, _), (208, _)] rfl (by kernel_rfl) (fun _ _ _ _ h => h) (guard_some rfl rfl rfl) rfl hn rfl (fun hc => ⟨⟨_, rfl, hc⟩, ⟨_, rfl, hc⟩, trivial⟩) (fun hc => q_lss rfl rfl rfl) ?_
          refine d1q (i := 9) rfl (by kernel_rfl) (fun _ _ _ _ h => h) rfl rfl hn rfl (q_or rfl rfl rfl (by intro hB; first | (rw [hB]; rfl) | (rw [hB, hc]; rfl) | simp_all)) ?_
          refine d1q (i := 10) rfl (by kernel_rfl) (fun _ _ _ _ h => h) rfl rfl hn rfl (q_move rfl rfl) ?_
          refine d1g (i := 11) [] rfl (by kernel_rfl) (fun _ _ _ _ h => h) (guard_some rfl rfl rfl) rfl hn rfl (fun hc => trivial) (fun hc => q_move rfl rfl) ?_
          refine d1g (i := 12) [(212, _)] rfl (by kernel_rfl) (fun _ _ _ _ h => h) (guard_some rfl rfl rfl) rfl hn rfl (fun hc => ⟨⟨_, rfl, hc⟩, trivial⟩) (fun hc => q_indexA (i := a) rfl rfl rfl Try.underlying83 sz3 rfl (by omega)) ?_
          refine d1g (i := 13) [(213, _)] rfl (by kernel_rfl) (fun _ _ _ _ h => h) (guard_some rfl rfl rfl) rfl hn rfl (fun hc => ⟨⟨_, rfl, hc⟩, trivial⟩) (fun hc => q_load rfl rfl (id := 24) rfl Try.underlying3 rfl (at1 (getD_some (by omega))) (seesA (by simp))) ?_
          refine d1g (i := 14) [] rfl (by kernel_rfl) (fun _ _ _ _ h => h) (guard_some rfl rfl rfl) rfl hn rfl (fun hc => trivial) (fun hc => q_fieldAddr rfl rfl Try.underlying45 rfl sz3) ?_
          refine d1g (i := 15) [(215, _)] rfl (by kernel_rfl) (fun _ _ _ _ h => h) (guard_some rfl rfl rfl) rfl hn rfl (fun hc => ⟨⟨_, rfl, hc⟩, trivial⟩) (fun hc => q_load rfl rfl (id := 30) rfl Try.underlying3 rfl rfl (seesA (by simp))) ?_
          refine d1g (i := 16) [(214, _), (216, _)] rfl (by kernel_rfl) (fun _ _ _ _ h => h) (guard_some rfl rfl rfl) rfl hn rfl (fun hc => ⟨⟨_, rfl, hc⟩, ⟨_, rfl, hc⟩, trivial⟩) (fun hc => q_gtr rfl rfl rfl) ?_
          refine d1q (i := 17) rfl (by kernel_rfl) (fun _ _ _ _ h => h) rfl rfl hn rfl (q_or rfl rfl rfl (by intro hB; first | (rw [hB]; rfl) | (rw [hB, hc]; rfl) | simp_all)) ?_
          refine d1_of_d2 ?_
          refine d2_done (by kernel_rfl) ?_
          refine aend_then ?_
          refine awp_cond rfl (fun hb5 => ?_) (fun hb5 => ?_)
          · skip
            exfalso; rw [hva] at hb5; simp at hb5; omega
          · skip
            refine awp_skip ?_
            refine aend_then ?_
            refine awp_seq ?_
            refine awp_region ?_
            refine sq rfl rfl hn rfl (q_move rfl rfl) ?_
            refine sq rfl rfl hn rfl (q_move rfl rfl) ?_
            refine sq rfl rfl hn rfl (q_indexA (i := a) rfl rfl rfl Try.underlying83 sz3 rfl (by omega)) ?_
            refine sq rfl rfl hn rfl (q_load rfl rfl (id := 24) rfl Try.underlying3 rfl (at1 (getD_some (by omega))) sees0) ?_
            refine sq rfl rfl hn rfl (q_add rfl rfl rfl (r := ((sumTo (hadN o N r.start.length) (a + 1) : Nat) : Int)) (i64w (by omega) (by omega))) ?_
            refine sq rfl rfl hn rfl (q_assign rfl rfl) ?_
            refine run_nil ?_
            refine aend_then ?_
            refine awp_seq ?_
            refine awp_region ?_
            refine sq rfl rfl hn rfl (q_assign rfl rfl) ?_
            refine run_nil ?_
            refine aend_then ?_
            refine awp_block ?_
            refine awp_loop_on (ι := {b : Nat // b ≤ H}) (fun x => (32, true, .d (.int .i64 (x.1 : Nat))) :: anys [224, 225, 226, 230, 231, 232, 233, 234, 235, 229, 236, 237, 33, 34, 238, 239, 240, 241, 242, 243, 244, 245, 246, 247, 248, 249, 250, 251, 252, 253, 254, 255, 256, 257, 258, 259, 260, 261, 262, 263, 264, 265, 266, 267, 268, 269, 270, 271, 272, 273, 274, 275, 276, 277, 278, 279, 280, 227, 228]) (fun x => gones [33]) (fun x => H - x.1) ⟨0, Nat.zero_le _⟩ ⟨.inl rfl, holdT_anys _⟩ (holdR_gones _) ?_
            rintro ⟨b, hbH⟩
            dsimp only
            refine awp_seq ?_
            refine awp_seq ?_
            refine awp_region ?_
            refine sq rfl rfl hn rfl (q_move rfl rfl) ?_
            refine sq rfl rfl hn rfl (q_move rfl rfl) ?_
            refine sq rfl rfl hn rfl (q_lss rfl rfl rfl) ?_
            refine run_nil ?_
            refine aend_then ?_
            refine awp_cond rfl (fun hb6 => ?_) (fun hb6 => ?_)
            · skip
              have hbL : b < H := by simp at hb6; omega
              refine awp_skip ?_
              refine aend_then ?_
              refine awp_seq ?_
              refine awp_block ?_
              refine awp_seq ?_
              refine awp_region ?_
              refine sq rfl rfl hn rfl (q_loadAd rfl rfl (id := 11) rfl Try.underlying26 rfl sz26 rfl rfl sees0) ?_
              refine stepW (s_call [] (fun _ => Register_ok r (by have h5 := vr.s4; omega) (by have h5 := vr.e6; omega) (by have h5 := vr.g4; omega)) rfl (guard_none rfl) rfl (nb hn rfl) (fun _ => trivial) rfl rfl (.refl _)) fun _ => ?_
              refine sq rfl rfl hn rfl (q_move rfl rfl) ?_
              refine sq rfl rfl hn rfl (q_move rfl rfl) ?_
              refine sq rfl rfl hn rfl (q_move rfl rfl) ?_
              refine stepW (s_callE (Owed_eff r (a : Nat) (b : Nat) (N : Nat)) rfl rfl rfl (nb hn rfl) (.d rfl) rfl (.refl _) trivial (fun _ => rfl) (fun _ _ => trivial)) fun x4 => ?_
              obtain ⟨he4, hv4_, hne4⟩ := wantE_0 vr hT (by rw [houseB_of vr (by omega) (by omega), houseB_of vr (by omega) (by omega)]; rfl) (by omega) x4.2
              rw [he4]
              obtain ⟨hr4, ⟨m1, hm1, hlo⟩, m2, hm2, hhi⟩ := owed_rng (a := (a : Int)) (b := (b : Int)) hv4_ hne4
              have hr5 := hr4 m hEve
              have hop := (hpair.2.1 a b (by omega) (by omega)).1
              have hnn := openN_nn vr hN9 (show a < 4 by omega) (show b < 4 by omega) hm1
              have hself : a = b → (owedR r (a : Int) (b : Int) x4.1.1).2 = 0 := fun e => by rw [hhi, e]; exact openN_self vr _ _
              refine sq rfl rfl hn rfl (q_move rfl rfl) ?_
              refine sq rfl rfl hn rfl (q_extractd rfl rfl rfl) ?_
              refine sq rfl rfl hn rfl (q_extractd rfl rfl rfl) ?_
              refine stepW (s_alloc 33 rfl rfl rfl (nb hn rfl) zr45 rfl rfl) fun b33 => ?_
              refine stepW (s_store rfl rfl rfl rfl rfl rfl (id := 33) rfl sz45 rfl (Nat.le_of_ble_eq_true rfl) rfl trivial) fun _ => ?_
              refine sq rfl rfl hn rfl (q_assign rfl rfl) ?_
              refine run_nil ?_
              refine aend_then ?_
              refine awp_seq ?_
              refine d_start (W := fun b => b ≠ b14 ∧ b ≠ b33) fmo ?_
              refine d1q (i := 0) rfl (by kernel_rfl) (fun _ _ _ _ h => h) rfl rfl hn rfl (q_move rfl rfl) ?_
              refine d1q (i := 1) rfl (by kernel_rfl) (fun _ _ _ _ h => h) rfl rfl hn rfl (q_neq rfl rfl rfl) ?_
              refine d1q (i := 2) rfl (by kernel_rfl) (fun _ _ _ _ h => h) rfl rfl hn rfl (q_move rfl rfl) ?_
              refine d1g (i := 3) [] rfl (by kernel_rfl) (fun _ _ _ _ h => h) (guard_some rfl rfl rfl) rfl hn rfl (fun hc => trivial) (fun hc => q_fieldAddr rfl rfl Try.underlying45 rfl sz3) ?_
              refine d1g (i := 4) [(241, _)] rfl (by kernel_rfl) (fun _ _ _ _ h => h) (guard_some rfl rfl rfl) rfl hn rfl (fun hc => ⟨⟨_, rfl, hc⟩, trivial⟩) (fun hc => q_load rfl rfl (id := 33) rfl Try.underlying3 rfl rfl (seesA (by simp))) ?_
              refine d1g (i := 5) [(242, _)] rfl (by kernel_rfl) (fun _ _ _ _ h => h) (guard_some rfl rfl rfl) rfl hn rfl (fun hc => ⟨⟨_, rfl, hc⟩, trivial⟩) (fun hc => q_lss rfl rfl rfl) ?_
              refine d1q (i := 6) rfl (by kernel_rfl) (fun _ _ _ _ h => h) rfl rfl hn rfl (q_or rfl rfl rfl (by intro hB; first | (rw [hB]; rfl) | (rw [hB, hc]; rfl) | simp_all)) ?_
              refine d1q (i := 7) rfl (by kernel_rfl) (fun _ _ _ _ h => h) rfl rfl hn rfl (q_move rfl rfl) ?_
              refine d1g (i := 8) [] rfl (by kernel_rfl) (fun _ _ _ _ h => h) (guard_some rfl rfl rfl) rfl hn rfl (fun hc => trivial) (fun hc => q_move rfl rfl) ?_
              refine d1g (i := 9) [] rfl (by kernel_rfl) (fun _ _ _ _ h => h) (guard_some rfl rfl rfl) rfl hn rfl (fun hc => trivial) (fun hc => q_move rfl rfl) ?_
              refine d1g (i := 10) [] rfl (by kernel_rfl) (fun _ _ _ _ h => h) (guard_some rfl rfl rfl) rfl hn rfl (fun hc => trivial) (fun hc => q_move rfl rfl) ?_
              refine d1g (i := 11) [] rfl (by kernel_rfl) (fun _ _ _ _ h => h) (guard_some rfl rfl rfl) rfl hn rfl (fun hc => trivial) (fun hc => q_fieldAddr rfl rfl Try.underlying88 rfl sz86) ?_
              refine d1g (i := 12) [(249, _), (246, _)] rfl (by kernel_rfl) (fun _ _ _ _ h => h) (guard_some rfl rfl rfl) rfl hn rfl (fun hc => ⟨⟨_, rfl, hc⟩, ⟨_, rfl, hc⟩, trivial⟩) (fun hc => q_indexA (i := N) rfl rfl rfl Try.underlying86 sz85 rfl (by omega)) ?_
              refine d1g (i := 13) [(250, _), (247, _)] rfl (by kernel_rfl) (fun _ _ _ _ h => h) (guard_some rfl rfl rfl) rfl hn rfl (fun hc => ⟨⟨_, rfl, hc⟩, ⟨_, rfl, hc⟩, trivial⟩) (fun hc => q_indexA (i := a) rfl rfl rfl Try.underlying85 sz83 rfl (by omega)) ?_
              refine d1g (i := 14) [(251, _), (248, _)] rfl (by kernel_rfl) (fun _ _ _ _ h => h) (guard_some rfl rfl rfl) rfl hn rfl (fun hc => ⟨⟨_, rfl, hc⟩, ⟨_, rfl, hc⟩, trivial⟩) (fun hc => q_indexA (i := b) rfl rfl rfl Try.underlying83 sz3 rfl (by omega)) ?_
              refine d1g (i := 15) [(252, _)] rfl (by kernel_rfl) (fun _ _ _ _ h => h) (guard_some rfl rfl rfl) rfl hn rfl (fun hc => ⟨⟨_, rfl, hc⟩, trivial⟩) (fun hc => q_load rfl rfl (id := 14) rfl Try.underlying3 rfl (at0 (by show 0 + 40 + N * 16 + a * 4 + b * 1 = 40 + N * 16 + a * 4 + b; omega) (getD_some (by omega))) (seesA (by simp))) ?_
              refine d1g (i := 16) [] rfl (by kernel_rfl) (fun _ _ _ _ h => h) (guard_some rfl rfl rfl) rfl hn rfl (fun hc => trivial) (fun hc => q_fieldAddr rfl rfl Try.underlying45 rfl sz3) ?_
              refine d1g (i := 17) [(254, _)] rfl (by kernel_rfl) (fun _ _ _ _ h => h) (guard_some rfl rfl rfl) rfl hn rfl (fun hc => ⟨⟨_, rfl, hc⟩, trivial⟩) (fun hc => q_load rfl rfl (id := 33) rfl Try.underlying3 rfl rfl (seesA (by simp))) ?_
              refine d1g (i := 18) [(253, _), (255, _)] rfl (by kernel_rfl) (fun _ _ _ _ h => h) (guard_some rfl rfl rfl) rfl hn rfl (fun hc => ⟨⟨_, rfl, hc⟩, ⟨_, rfl, hc⟩, trivial⟩) (fun hc => q_lss rfl rfl rfl) ?_
              refine d1q (i := 19) rfl (by kernel_rfl) (fun _ _ _ _ h => h) rfl rfl hn rfl (q_or rfl rfl rfl (by intro hB; first | (rw [hB]; rfl) | (rw [hB, hc]; rfl) | simp_all)) ?_
              refine d1q (i := 20) rfl (by kernel_rfl) (fun _ _ _ _ h => h) rfl rfl hn rfl (q_move rfl rfl) ?_
              refine d1g (i := 21) [] rfl (by kernel_rfl) (fun _ _ _ _ h => h) (guard_some rfl rfl rfl) rfl hn rfl (fun hc => trivial) (fun hc => q_move rfl rfl) ?_
              refine d1g (i := 22) [] rfl (by kernel_rfl) (fun _ _ _ _ h => h) (guard_some rfl rfl rfl) rfl hn rfl (fun hc => trivial) (fun hc => q_move rfl rfl) ?_
              refine d1g (i := 23) [] rfl (by kernel_rfl) (fun _ _ _ _ h => h) (guard_some rfl rfl rfl) rfl hn rfl (fun hc => trivial) (fun hc => q_move rfl rfl) ?_
              refine d1g (i := 24) [] rfl (by kernel_rfl) (fun _ _ _ _ h => h) (guard_some rfl rfl rfl) rfl hn rfl (fun hc => trivial) (fun hc => q_fieldAddr rfl rfl Try.underlying88 rfl sz86) ?_
              refine d1g (i := 25) [(262, _), (259, _)] rfl (by kernel_rfl) (fun _ _ _ _ h => h) (guard_some rfl rfl rfl) rfl hn rfl (fun hc => ⟨⟨_, rfl, hc⟩, ⟨_, rfl, hc⟩, trivial⟩) (fun hc => q_indexA (i := N) rfl rfl rfl Try.underlying86 sz85 rfl (by omega)) ?_
              refine d1g (i := 26) [(263, _), (260, _)] rfl (by kernel_rfl) (fun _ _ _ _ h => h) (guard_some rfl rfl rfl) rfl hn rfl (fun hc => ⟨⟨_, rfl, hc⟩, ⟨_, rfl, hc⟩, trivial⟩) (fun hc => q_indexA (i := a) rfl rfl rfl Try.underlying85 sz83 rfl (by omega)) ?_
              refine d1g (i := 27) [(264, _), (261, _)] rfl (by kernel_rfl) (fun _ _ _ _ h => h) (guard_some rfl rfl rfl) rfl hn rfl (fun hc => ⟨⟨_, rfl, hc⟩, ⟨_, rfl, hc⟩, trivial⟩) (fun hc => q_indexA (i := b) rfl rfl rfl Try.underlying83 sz3 rfl (by omega)) ?_
              refine d1g (i := 28) [(265, _)] rfl (by kernel_rfl) (fun _ _ _ _ h => h) (guard_some rfl rfl rfl) rfl hn rfl (fun hc => ⟨⟨_, rfl, hc⟩, trivial⟩) (fun hc => q_load rfl rfl (id := 14) rfl Try.underlying3 rfl (at0 (by show 0 + 40 + N * 16 + a * 4 + b * 1 = 40 + N * 16 + a * 4 + b; omega) (getD_some (by omega))) (seesA (by simp))) ?_
              refine d1g (i := 29) [] rfl (by kernel_rfl) (fun _ _ _ _ h => h) (guard_some rfl rfl rfl) rfl hn rfl (fun hc => trivial) (fun hc => q_fieldAddr rfl rfl Try.underlying45 rfl sz3) ?_
              refine d1g (i := 30) [(267, _)] rfl (by kernel_rfl) (fun _ _ _ _ h => h) (guard_some rfl rfl rfl) rfl hn rfl (fun hc => ⟨⟨_, rfl, hc⟩, trivial⟩) (fun hc => q_load rfl rfl (id := 33) rfl Try.underlying3 rfl rfl (seesA (by simp))) ?_
              refine d1g (i := 31) [(266, _), (268, _)] rfl (by kernel_rfl) (fun _ _ _ _ h => h) (guard_some rfl rfl rfl) rfl hn rfl (fun hc => ⟨⟨_, rfl, hc⟩, ⟨_, rfl, hc⟩, trivial⟩) (fun hc => q_gtr rfl rfl rfl) ?_
              refine d1q (i := 32) rfl (by kernel_rfl) (fun _ _ _ _ h => h) rfl rfl hn rfl (q_or rfl rfl rfl (by intro hB; first | (rw [hB]; rfl) | (rw [hB, hc]; rfl) | simp_all)) ?_
              refine d1q (i := 33) rfl (by kernel_rfl) (fun _ _ _ _ h => h) rfl rfl hn rfl (q_move rfl rfl) ?_
              refine d1g (i := 34) [] rfl (by kernel_rfl) (fun _ _ _ _ h => h) (guard_some rfl rfl rfl) rfl hn rfl (fun hc => trivial) (fun hc => q_move rfl rfl) ?_
              refine d1g (i := 35) [] rfl (by kernel_rfl) (fun _ _ _ _ h => h) (guard_some rfl rfl rfl) rfl hn rfl (fun hc => trivial) (fun hc => q_move rfl rfl) ?_
              refine d1g (i := 36) [(272, _), (273, _)] rfl (by kernel_rfl) (fun _ _ _ _ h => h) (guard_some rfl rfl rfl) rfl hn rfl (fun hc => ⟨⟨_, rfl, hc⟩, ⟨_, rfl, hc⟩, trivial⟩) (fun hc => q_eql rfl rfl rfl) ?_
              refine d1g (i := 37) [(274, _)] rfl (by kernel_rfl) (fun _ _ _ _ h => h) (guard_some rfl rfl rfl) rfl hn rfl (fun hc => ⟨⟨_, rfl, hc⟩, trivial⟩) (fun hc => q_move rfl rfl) ?_
              refine d1g (i := 38) [] rfl (by kernel_rfl) (fun _ _ _ _ h => h) (guard_some rfl rfl rfl) rfl hn rfl (fun hc => trivial) (fun hc => q_fieldAddr rfl rfl Try.underlying45 rfl sz3) ?_
              refine d1g (i := 39) [(276, _)] rfl (by kernel_rfl) (fun _ _ _ _ h => h) (guard_some rfl rfl rfl) rfl hn rfl (fun hc => ⟨⟨_, rfl, hc⟩, trivial⟩) (fun hc => q_load rfl rfl (id := 33) rfl Try.underlying3 rfl rfl (seesA (by simp))) ?_
              refine d1g (i := 40) [(277, _)] rfl (by kernel_rfl) (fun _ _ _ _ h => h) (guard_some rfl rfl rfl) rfl hn rfl (fun hc => ⟨⟨_, rfl, hc⟩, trivial⟩) (fun hc => q_neq rfl rfl rfl) ?_
              refine d1g (i := 41) [(275, _)] rfl (by kernel_rfl) (fun _ _ _ _ h => h) (guard_some rfl rfl rfl) rfl hn rfl (fun hc => ⟨⟨_, rfl, hc⟩, trivial⟩) (fun hc => q_and rfl rfl rfl (by intro hB; first | (rw [hB]; rfl) | (rw [hB, hc]; rfl) | simp_all)) ?_
              refine d1q (i := 42) rfl (by kernel_rfl) (fun _ _ _ _ h => h) rfl rfl hn rfl (q_or rfl rfl rfl (by intro hB; first | (rw [hB]; rfl) | (rw [hB, hc]; rfl) | simp_all)) ?_
              refine d1_of_d2 ?_
              refine d2_done (by kernel_rfl) ?_
              refine aend_then ?_
              refine awp_cond rfl (fun hb7 => ?_) (fun hb7 => ?_)
              · skip
                exfalso; rw [show o.getD (40 + N * 16 + a * 4 + b) 0 = openN r m (a : Int) (b : Int) from hop] at hb7; simp at hb7; omega
              · skip
                refine awp_skip ?_
                refine aend_block ?_
                refine aend_then ?_
                refine awp_region ?_
                refine sq rfl rfl hn rfl (q_move rfl rfl) ?_
                refine sq rfl rfl hn rfl (q_add rfl rfl rfl (r := ((b + 1 : Nat) : Int)) (i64w (by omega) (by omega))) ?_
                refine sq rfl rfl hn rfl (q_assign rfl rfl) ?_
                refine run_nil ?_
                exact aend_round_on ⟨b + 1, by omega⟩ ⟨.inl rfl, holdT_anys _⟩ (holdR_gones _) (by simp only; omega) (by repeat (first | exact kr _ | refine kc rfl ?_)) (by repeat (first | exact kr _ | refine kc rfl ?_))
            · skip
              refine awp_exit ?_
              refine aend_then_exit ?_
              refine aend_then_exit ?_
              refine aend_block_exit ?_
              refine aend_block ?_
              refine aend_then ?_
              refine awp_region ?_
              refine sq rfl rfl hn rfl (q_move rfl rfl) ?_
              refine sq rfl rfl hn rfl (q_add rfl rfl rfl (r := ((a + 1 : Nat) : Int)) (i64w (by omega) (by omega))) ?_
              refine sq rfl rfl hn rfl (q_assign rfl rfl) ?_
              refine run_nil ?_
              exact aend_round_on ⟨a + 1, by omega⟩ ⟨.inl rfl, .inl rfl, holdT_anys _⟩ (holdR_gones _) (by simp only; omega) (by repeat (first | exact kr _ | refine kc rfl ?_)) (by repeat (first | exact kr _ | refine kc rfl ?_))
        · skip
          have hae : a = H := by simp at hb4; omega
          subst hae
          rw [hsum]
          refine awp_exit ?_
          refine aend_then_exit ?_
          refine aend_then_exit ?_
          refine aend_block_exit ?_
          refine aend_then ?_
          refine awp_seq ?_
          refine awp_region ?_
          refine sq rfl rfl hn rfl (q_move rfl rfl) ?_
          refine sq rfl rfl hn rfl (q_move rfl rfl) ?_
          refine sq rfl rfl hn rfl (q_len rfl rfl Try.underlying22) ?_
          refine sq rfl rfl hn rfl (q_eql rfl rfl rfl) ?_
          refine sq rfl rfl hn rfl (q_move rfl rfl) ?_
          refine stepW (s_call [] (fun hc => awake_ok) rfl (guard_some rfl rfl rfl) rfl (nb hn rfl) (fun hc => trivial) rfl rfl (.refl _)) fun _ => ?_
          refine sq rfl rfl hn rfl (q_and rfl rfl rfl (by intro hB; first | (rw [hB]; rfl) | (rw [hB, hc]; rfl) | simp_all)) ?_
          refine sq rfl rfl hn rfl (q_assign rfl rfl) ?_
          refine run_nil ?_
          refine aend_then ?_
          refine awp_ret ?_
          exact ret_E (.inl rfl) () ((hands_1 rfl (.tmp rfl)).eq (by simp)) trivial
end Go.Proofs.Ytnbmmopjkkofoaa
namespace Go.Proofs.Ytnbmmopjkkofoaa
open Go.ChangeShapes Go.WideShapes Go.ChangeAt Go.RowKit
set_option linter.all false
theorem SheetTruth_pure (xs : List D) (h : Sat [SInt, SInts, SU16s, SU8, SU8] xs) : PureAt Try.prog 13 xs (.bool true) := by
  obtain ⟨_, _, rfl, ⟨a1, rfl, h1⟩, _, _, rfl, ⟨a2, rfl, h2⟩, _, _, rfl, ⟨a3, rfl, h3⟩, _, _, rfl, ⟨a4, rfl, h4⟩, _, _, rfl, ⟨a5, rfl, h5⟩, rfl⟩ := h
  exact PureAt.of_eff (ds := [.int .i64 a1, ints a2, wordsD a3, .int .u8 (a4 : Nat), .int .u8 (a5 : Nat)]) (SheetTruth_eff a1 a2 a3 a4 a5 h3.1 h4 h5)
set_option maxRecDepth 100000 in
theorem sheetTruth_lifted (os : Os) (started : os.Started) (H : Type) (enc : TypeId × Value → H) :
    ReturnsInHanded {} Try.checked os 13 .any (Rows.sheetTruthSpec.pre6 enc Try.prog Try.f13 Rows.sheetTruthRow.domain false) (Rows.sheetTruthSpec.post enc Try.prog Try.f13 false true false false) := by
  refine returnsInHanded_of_change_sized (C := Try.checked) own started (by kernel_rfl) Try.func13
    (ChangeSpec.witness6 (enc := enc) (C := Try.checked) false ⟨#[], #[.int .i64 0, .slice none 0 0, .slice none 0 0, .int .u8 0, .int .u8 0], []⟩ 8 (by kernel_rfl) (by kernel_rfl) (by kernel_rfl) (by kernel_rfl)) ?_
  intro W base args ds gs before hval hW _ hz _
  exact law_contract (ts := [3, 22, 52, 5, 5]) (Ss := [SInt, SInts, SU16s, SU8, SU8]) laidOut (by rw [Try.params13]) (by kernel_rfl) (by kernel_rfl) Try.underlying4 rfl rfl
    (fun ds h => by match ds, h with | [d1, d2, d3, d4, d5], _ => rfl) ⟨pInt, pInts, pU16s, pU8, pU8, trivial⟩ SheetTruth_pure W base args ds gs before hval hW hz
theorem sheetTruth_holds : Rows.SheetTruthSaid :=
  OpenClaim.holds_of_wide 13 Try.f13 rfl rfl rfl rfl rfl rfl rfl ⟨rfl, rfl, rfl, rfl, rfl⟩ rfl rfl rfl rfl rfl (by kernel_rfl) Try.func13 (by kernel_rfl)
    (of_decide_eq_true (by kernel_rfl)) (by unfold Func.isWrapper; first | (rw [if_pos (by decide +kernel)]; kernel_rfl) | (rw [if_neg (by decide +kernel)]; exact ⟨rfl, rfl⟩))
    (fun os started H enc _ => sheetTruth_lifted os started H enc)
end Go.Proofs.Ytnbmmopjkkofoaa
