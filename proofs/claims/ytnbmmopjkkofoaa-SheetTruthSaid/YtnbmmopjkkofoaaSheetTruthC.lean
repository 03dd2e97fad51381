/-
  A part of the proof that contangolaw.SheetTruth returns true: what the last text needs, and no more. No condition: no statement of the seat is proved here.
-/
import Derived.Test.YtnbmmopjkkofoaaChecked
import Derived.Laws.Bits64b
import Derived.Test.YtnbmmopjkkofoaaSheetTruthB
namespace Go.Proofs.Ytnbmmopjkkofoaa
open Go.RowKit
set_option maxRecDepth 20000
set_option linter.all false
def dayB (n : Int) : Bool := decide (0 ≤ n) && decide (n ≤ 9)
def houseB (r : Reg) (n : Int) : Bool := decide (0 ≤ n) && decide (n ≤ iw (r.houses - 1))
def sheetB (r : Reg) (n : Int) : Bool := decide (0 ≤ n) && decide (n ≤ (r.start.length : Int) - 1)
def entryB (r : Reg) (e : Ent5) : Bool := (decide (0 ≤ e.kind) && decide (e.kind ≤ 2)) && sheetB r e.sheet && houseB r e.frm && houseB r e.to && (e.frm != e.to) && dayB e.lo && dayB e.hi && decide (e.lo ≤ e.hi)
def limB (r : Reg) : Bool := decide (4 < r.houses) || decide (4 < (r.start.length : Int)) || decide (6 < (r.entries.length : Int)) || decide (4 < (r.sights.length : Int))
def sightB (r : Reg) (s : Sight5) : Bool := sheetB r s.sheet && houseB r s.house && dayB s.day
def argB (r : Reg) : Bool := decide (r.houses < 1) || ((r.start.length : Int) == 0) || !(r.start.all (houseB r)) || !(r.entries.all (entryB r)) || !(r.sights.all (sightB r))
def checkE (r : Reg) : Int := bif limB r then 3 else bif argB r then 1 else 0
theorem houseB_eq {r : Reg} {n : Int} (h1 : 1 ≤ r.houses) (h2 : r.houses ≤ 4) : houseB r n = (decide (0 ≤ n) && decide (n ≤ r.houses - 1)) := by
  unfold houseB
  rw [iw_of (by omega)]
theorem notT {b : Bool} (h : (!b) = true) : b = false := by cases b <;> simp_all
theorem notF {b : Bool} (h : (!b) = false) : b = true := by cases b <;> simp_all
theorem checkE_3 {r : Reg} (h : limB r = true) : checkE r = 3 := by simp [checkE, h]
theorem checkE_1 {r : Reg} (h : limB r = false) (k : argB r = true) : checkE r = 1 := by simp [checkE, h, k]
theorem checkE_0 {r : Reg} (h : limB r = false) (h1 : 1 ≤ r.houses) (h2 : r.houses ≤ 4 ∧ r.start ≠ []) (k1 : r.start.all (houseB r) = true) (k2 : r.entries.all (entryB r) = true) (k3 : r.sights.all (sightB r) = true) : checkE r = 0 := by
  have : argB r = false := by
    have hz : ¬ r.houses < 1 := by omega
    have hl : ¬ ((r.start.length : Int) = 0) := fun e => h2.2 (List.eq_nil_of_length_eq_zero (by omega))
    simp [argB, k1, k2, k3, hz, hl, h2.2]
  simp [checkE, h, this]
theorem arg_start {r : Reg} {i : Nat} {x : Int} (h : r.start[i]? = some x) (hx : houseB r x = false) : argB r = true := by
  have : r.start.all (houseB r) = false := List.all_eq_false.2 ⟨x, List.mem_of_getElem? h, by simp [hx]⟩
  simp [argB, this]
theorem arg_ent {r : Reg} {i : Nat} {x : Ent5} (h : r.entries[i]? = some x) (hx : entryB r x = false) : argB r = true := by
  have : r.entries.all (entryB r) = false := List.all_eq_false.2 ⟨x, List.mem_of_getElem? h, by simp [hx]⟩
  simp [argB, this]
theorem arg_sight {r : Reg} {i : Nat} {x : Sight5} (h : r.sights[i]? = some x) (hx : sightB r x = false) : argB r = true := by
  have : r.sights.all (sightB r) = false := List.all_eq_false.2 ⟨x, List.mem_of_getElem? h, by simp [hx]⟩
  simp [argB, this]
def entBad (r : Reg) (e : Ent5) : Bool :=
  (!(decide (0 ≤ e.kind) && decide (e.kind ≤ 2))) || (!(decide (0 ≤ e.sheet) && decide (e.sheet ≤ (r.start.length : Int) - 1))) || (!(decide (0 ≤ e.frm) && decide (e.frm ≤ r.houses - 1))) || (!(decide (0 ≤ e.to) && decide (e.to ≤ r.houses - 1))) ||
  (e.frm == e.to) || (!(decide (0 ≤ e.lo) && decide (e.lo ≤ e.hi))) || decide (9 < e.hi)
theorem entBad_eq {r : Reg} {e : Ent5} (h1 : 1 ≤ r.houses) (h2 : r.houses ≤ 4) : entBad r e = !entryB r e := by
  unfold entBad entryB
  rw [houseB_eq h1 h2, houseB_eq h1 h2]
  unfold sheetB dayB
  rw [Bool.eq_iff_iff]
  simp
  omega
theorem entryB_of {r : Reg} {e : Ent5} (h1 : 1 ≤ r.houses) (h2 : r.houses ≤ 4) (h : entBad r e = false) : entryB r e = true := by rw [entBad_eq h1 h2] at h; simpa using h
theorem entryB_not {r : Reg} {e : Ent5} (h1 : 1 ≤ r.houses) (h2 : r.houses ≤ 4) (h : entBad r e = true) : entryB r e = false := by rw [entBad_eq h1 h2] at h; simpa using h
def sightBad (r : Reg) (s : Sight5) : Bool :=
  (!(decide (0 ≤ s.sheet) && decide (s.sheet ≤ (r.start.length : Int) - 1))) || (!(decide (0 ≤ s.house) && decide (s.house ≤ r.houses - 1))) || (!(decide (0 ≤ s.day) && decide (s.day ≤ 9)))
theorem sightBad_eq {r : Reg} {e : Sight5} (h1 : 1 ≤ r.houses) (h2 : r.houses ≤ 4) : sightBad r e = !sightB r e := by
  unfold sightBad sightB
  rw [houseB_eq h1 h2]
  simp [sheetB, dayB]
theorem sightB_of {r : Reg} {e : Sight5} (h1 : 1 ≤ r.houses) (h2 : r.houses ≤ 4) (h : sightBad r e = false) : sightB r e = true := by rw [sightBad_eq h1 h2] at h; simpa using h
theorem sightB_not {r : Reg} {e : Sight5} (h1 : 1 ≤ r.houses) (h2 : r.houses ≤ 4) (h : sightBad r e = true) : sightB r e = false := by rw [sightBad_eq h1 h2] at h; simpa using h
theorem sz3 : Sz Try.prog 3 1 := (by kernel_rfl : (Try.prog.info? 3).map (·.size) = some 1)
theorem sz22 : Sz Try.prog 22 1 := (by kernel_rfl : (Try.prog.info? 22).map (·.size) = some 1)
theorem sz23 : Sz Try.prog 23 1 := (by kernel_rfl : (Try.prog.info? 23).map (·.size) = some 1)
theorem sz24 : Sz Try.prog 24 1 := (by kernel_rfl : (Try.prog.info? 24).map (·.size) = some 1)
theorem sz26 : Sz Try.prog 26 4 := (by kernel_rfl : (Try.prog.info? 26).map (·.size) = some 4)
theorem sz32 : Sz Try.prog 32 1 := (by kernel_rfl : (Try.prog.info? 32).map (·.size) = some 1)
theorem sz33 : Sz Try.prog 33 1 := (by kernel_rfl : (Try.prog.info? 33).map (·.size) = some 1)
theorem sz35 : Sz Try.prog 35 4 := (by kernel_rfl : (Try.prog.info? 35).map (·.size) = some 4)
theorem sz45 : Sz Try.prog 45 2 := (by kernel_rfl : (Try.prog.info? 45).map (·.size) = some 2)
theorem sz49 : Sz Try.prog 49 2 := (by kernel_rfl : (Try.prog.info? 49).map (·.size) = some 2)
theorem sz59 : Sz Try.prog 59 3 := (by kernel_rfl : (Try.prog.info? 59).map (·.size) = some 3)
theorem sz67 : Sz Try.prog 67 6 := (by kernel_rfl : (Try.prog.info? 67).map (·.size) = some 6)
theorem sz92 : Sz Try.prog 92 3 := (by kernel_rfl : (Try.prog.info? 92).map (·.size) = some 3)
theorem sz95 : Sz Try.prog 95 6 := (by kernel_rfl : (Try.prog.info? 95).map (·.size) = some 6)
theorem sz102 : Sz Try.prog 102 1 := (by kernel_rfl : (Try.prog.info? 102).map (·.size) = some 1)
theorem zr26 : (Try.prog.info? 26).map (·.zero) = some (some (.agg #[(.int .i64 0), (.slice none 0 0), (.slice none 0 0), (.slice none 0 0)])) := by kernel_rfl
theorem zr59 : (Try.prog.info? 59).map (·.zero) = some (some (.agg #[(.int .i64 0), (.int .i64 0), (.int .i64 0)])) := by kernel_rfl
theorem zr67 : (Try.prog.info? 67).map (·.zero) = some (some (.agg #[(.int .i64 0), (.int .i64 0), (.int .i64 0), (.int .i64 0), (.int .i64 0), (.int .i64 0)])) := by kernel_rfl
theorem bt26 : BT Try.prog 26 (.agg #[(.int .i64 0), (.slice none 0 0), (.slice none 0 0), (.slice none 0 0)]) (fun i => ([(0, 1), (1, 1), (2, 1), (3, 1)] : List (Nat × Nat))[i]?) := bt_struct Try.underlying26 zr26 (by kernel_rfl)
theorem fmo : Try.prog.follows .mixedOrders = true := by kernel_rfl
theorem within_ok (n lo hi : Int) : PureAt Try.prog 84 [.int .i64 n, .int .i64 lo, .int .i64 hi] (.bool (decide (lo ≤ n) && decide (n ≤ hi))) := by
  refine PureAt.of_awp Try.func84 rfl (by kernel_rfl) (Nat.le_of_ble_eq_true rfl) fun Γ hn hl => ?_
  refine awp_seq ?_
  refine awp_region ?_
  refine sq rfl rfl hn rfl (q_assign rfl rfl) ?_
  refine run_nil ?_
  refine aend_then ?_
  refine awp_seq ?_
  refine awp_region ?_
  refine sq rfl rfl hn rfl (q_move rfl rfl) ?_
  refine sq rfl rfl hn rfl (q_move rfl rfl) ?_
  refine sq rfl rfl hn rfl (q_leq rfl rfl rfl) ?_
  refine sq rfl rfl hn rfl (q_move rfl rfl) ?_
  refine stepG [] (guard_some rfl rfl rfl) rfl (nb hn rfl) (fun hc => trivial) (fun hc => q_move rfl rfl) ?_
  refine stepG [] (guard_some rfl rfl rfl) rfl (nb hn rfl) (fun hc => trivial) (fun hc => q_move rfl rfl) ?_
  refine stepG [(11, _), (12, _)] (guard_some rfl rfl rfl) rfl (nb hn rfl) (fun hc => ⟨⟨_, rfl, hc⟩, ⟨_, rfl, hc⟩, trivial⟩) (fun hc => q_leq rfl rfl rfl) ?_
  refine sq rfl rfl hn rfl (q_and rfl rfl rfl (by simp_all)) ?_
  refine sq rfl rfl hn rfl (q_assign rfl rfl) ?_
  refine run_nil ?_
  refine aend_then ?_
  refine awp_ret ?_
  exact ret_1 (.inl rfl) hl rfl (.tmp rfl)
theorem In_ok (n lo hi : Int) : PureAt Try.prog 21 [.int .i64 n, .int .i64 lo, .int .i64 hi] (.bool (decide (lo ≤ n) && decide (n ≤ hi))) := by
  refine PureAt.of_awp Try.func21 rfl (by kernel_rfl) (Nat.le_of_ble_eq_true rfl) fun Γ hn hl => ?_
  refine awp_seq ?_
  refine awp_region ?_
  refine sq rfl rfl hn rfl (q_assign rfl rfl) ?_
  refine run_nil ?_
  refine aend_then ?_
  refine awp_seq ?_
  refine awp_region ?_
  refine sq rfl rfl hn rfl (q_move rfl rfl) ?_
  refine sq rfl rfl hn rfl (q_move rfl rfl) ?_
  refine sq rfl rfl hn rfl (q_geq rfl rfl rfl) ?_
  refine sq rfl rfl hn rfl (q_move rfl rfl) ?_
  refine stepG [] (guard_some rfl rfl rfl) rfl (nb hn rfl) (fun hc => trivial) (fun hc => q_move rfl rfl) ?_
  refine stepG [] (guard_some rfl rfl rfl) rfl (nb hn rfl) (fun hc => trivial) (fun hc => q_move rfl rfl) ?_
  refine stepG [(11, _), (12, _)] (guard_some rfl rfl rfl) rfl (nb hn rfl) (fun hc => ⟨⟨_, rfl, hc⟩, ⟨_, rfl, hc⟩, trivial⟩) (fun hc => q_leq rfl rfl rfl) ?_
  refine sq rfl rfl hn rfl (q_and rfl rfl rfl (by simp_all)) ?_
  refine sq rfl rfl hn rfl (q_assign rfl rfl) ?_
  refine run_nil ?_
  refine aend_then ?_
  refine awp_ret ?_
  exact ret_1 (.inl rfl) hl rfl (.tmp rfl)
theorem day_ok (n : Int) : PureAt Try.prog 82 [.int .i64 n] (.bool (dayB n)) := by
  refine PureAt.of_awp Try.func82 rfl (by kernel_rfl) (Nat.le_of_ble_eq_true rfl) fun Γ hn hl => ?_
  refine awp_seq ?_
  refine awp_region ?_
  refine sq rfl rfl hn rfl (q_assign rfl rfl) ?_
  refine run_nil ?_
  refine aend_then ?_
  refine awp_seq ?_
  refine awp_region ?_
  refine sq rfl rfl hn rfl (q_move rfl rfl) ?_
  refine stepW (s_call [] (fun _ => within_ok _ _ _) rfl (guard_none rfl) rfl (nb hn rfl) (fun _ => trivial) rfl rfl (.refl _)) fun _ => ?_
  refine sq rfl rfl hn rfl (q_assign rfl rfl) ?_
  refine run_nil ?_
  refine aend_then ?_
  refine awp_ret ?_
  exact ret_1 (.inl rfl) hl rfl (.tmp rfl)
theorem house_ok (r : Reg) (n : Int) : PureAt Try.prog 58 [regD r, .int .i64 n] (.bool (houseB r n)) := by
  refine PureAt.of_awp Try.func58 rfl (by kernel_rfl) (Nat.le_of_ble_eq_true rfl) fun Γ hn hl => ?_
  refine awp_seq ?_
  refine awp_region ?_
  refine stepW (s_box 2 rfl rfl rfl (nb hn rfl) rfl rfl) fun b2 => ?_
  refine sq rfl rfl hn rfl (q_assign rfl rfl) ?_
  refine run_nil ?_
  refine aend_then ?_
  refine awp_seq ?_
  refine awp_region ?_
  refine sq rfl rfl hn rfl (q_move rfl rfl) ?_
  refine sq rfl rfl hn rfl (q_fieldAddr rfl rfl Try.underlying35 rfl sz3) ?_
  refine sq rfl rfl hn rfl (q_load rfl rfl (id := 2) rfl Try.underlying3 rfl rfl sees0) ?_
  refine sq rfl rfl hn rfl (q_sub rfl rfl rfl rfl) ?_
  refine stepW (s_call [] (fun _ => within_ok _ _ _) rfl (guard_none rfl) rfl (nb hn rfl) (fun _ => trivial) rfl rfl (.refl _)) fun _ => ?_
  refine sq rfl rfl hn rfl (q_assign rfl rfl) ?_
  refine run_nil ?_
  refine aend_then ?_
  refine awp_ret ?_
  exact ret_1 (.inl rfl) hl rfl (.tmp rfl)
theorem sheet_ok (r : Reg) (n : Int) : PureAt Try.prog 54 [regD r, .int .i64 n] (.bool (sheetB r n)) := by
  refine PureAt.of_awp' Try.func54 rfl (by kernel_rfl) rfl fun hlen Γ hn hl => ?_
  have hst := (hlen.1 1 (r.start.map intE) (by simp)); simp only [List.length_map] at hst
  refine awp_seq ?_
  refine awp_region ?_
  refine stepW (s_box 2 rfl rfl rfl (nb hn rfl) rfl rfl) fun b2 => ?_
  refine sq rfl rfl hn rfl (q_assign rfl rfl) ?_
  refine run_nil ?_
  refine aend_then ?_
  refine awp_seq ?_
  refine awp_region ?_
  refine sq rfl rfl hn rfl (q_move rfl rfl) ?_
  refine sq rfl rfl hn rfl (q_fieldAddr rfl rfl Try.underlying35 rfl sz22) ?_
  refine sq rfl rfl hn rfl (q_load rfl rfl (id := 2) rfl Try.underlying22 rfl rfl sees0) ?_
  refine sq rfl rfl hn rfl (q_len rfl rfl Try.underlying22) ?_
  refine sq rfl rfl hn rfl (q_sub rfl rfl rfl (i64w (by simp only [List.length_map]; omega) rfl)) ?_
  refine stepW (s_call [] (fun _ => within_ok _ _ _) rfl (guard_none rfl) rfl (nb hn rfl) (fun _ => trivial) rfl rfl (.refl _)) fun _ => ?_
  refine sq rfl rfl hn rfl (q_assign rfl rfl) ?_
  refine run_nil ?_
  refine aend_then ?_
  refine awp_ret ?_
  refine ret_eq (ret_1 (.inl rfl) hl rfl (.tmp rfl)) ?_
  simp [sheetB]
theorem entry_ok (r : Reg) (e : Ent5) : PureAt Try.prog 74 [regD r, .agg (entE e)] (.bool (entryB r e)) := by
  refine PureAt.of_awp Try.func74 rfl (by kernel_rfl) (Nat.le_of_ble_eq_true rfl) fun Γ hn hl => ?_
  refine awp_seq ?_
  refine awp_region ?_
  refine stepW (s_box 2 rfl rfl rfl (nb hn rfl) rfl rfl) fun b2 => ?_
  refine stepW (s_box 3 rfl rfl rfl (nb hn rfl) rfl rfl) fun b3 => ?_
  refine sq rfl rfl hn rfl (q_assign rfl rfl) ?_
  refine run_nil ?_
  refine aend_then ?_
  refine awp_seq ?_
  refine awp_region ?_
  refine sq rfl rfl hn rfl (q_fieldAddr rfl rfl Try.underlying95 rfl sz3) ?_
  refine sq rfl rfl hn rfl (q_load rfl rfl (id := 3) rfl Try.underlying3 rfl rfl sees0) ?_
  refine stepW (s_call [] (fun _ => within_ok _ _ _) rfl (guard_none rfl) rfl (nb hn rfl) (fun _ => trivial) rfl rfl (.refl _)) fun _ => ?_
  refine sq rfl rfl hn rfl (q_move rfl rfl) ?_
  refine stepG [] (guard_some rfl rfl rfl) rfl (nb hn rfl) (fun hc => trivial) (fun hc => q_loadAd rfl rfl (id := 2) rfl Try.underlying35 rfl sz35 rfl rfl sees0) ?_
  refine stepG [] (guard_some rfl rfl rfl) rfl (nb hn rfl) (fun hc => trivial) (fun hc => q_fieldAddr rfl rfl Try.underlying95 rfl sz3) ?_
  refine stepG [(10, _)] (guard_some rfl rfl rfl) rfl (nb hn rfl) (fun hc => ⟨⟨_, rfl, hc⟩, trivial⟩) (fun hc => q_load rfl rfl (id := 3) rfl Try.underlying3 rfl rfl sees0) ?_
  refine stepW (s_call [(9, _), (11, _)] (fun hc => sheet_ok _ _) rfl (guard_some rfl rfl rfl) rfl (nb hn rfl) (fun hc => ⟨⟨_, rfl, hc⟩, ⟨_, rfl, hc⟩, trivial⟩) rfl rfl (.refl _)) fun _ => ?_
  refine sq rfl rfl hn rfl (q_and rfl rfl rfl (by simp_all)) ?_
  refine sq rfl rfl hn rfl (q_move rfl rfl) ?_
  refine stepG [] (guard_some rfl rfl rfl) rfl (nb hn rfl) (fun hc => trivial) (fun hc => q_loadAd rfl rfl (id := 2) rfl Try.underlying35 rfl sz35 rfl rfl sees0) ?_
  refine stepG [] (guard_some rfl rfl rfl) rfl (nb hn rfl) (fun hc => trivial) (fun hc => q_fieldAddr rfl rfl Try.underlying95 rfl sz3) ?_
  refine stepG [(16, _)] (guard_some rfl rfl rfl) rfl (nb hn rfl) (fun hc => ⟨⟨_, rfl, hc⟩, trivial⟩) (fun hc => q_load rfl rfl (id := 3) rfl Try.underlying3 rfl rfl sees0) ?_
  refine stepW (s_call [(15, _), (17, _)] (fun hc => house_ok _ _) rfl (guard_some rfl rfl rfl) rfl (nb hn rfl) (fun hc => ⟨⟨_, rfl, hc⟩, ⟨_, rfl, hc⟩, trivial⟩) rfl rfl (.refl _)) fun _ => ?_
  refine sq rfl rfl hn rfl (q_and rfl rfl rfl (by simp_all)) ?_
  refine sq rfl rfl hn rfl (q_move rfl rfl) ?_
  refine stepG [] (guard_some rfl rfl rfl) rfl (nb hn rfl) (fun hc => trivial) (fun hc => q_loadAd rfl rfl (id := 2) rfl Try.underlying35 rfl sz35 rfl rfl sees0) ?_
  refine stepG [] (guard_some rfl rfl rfl) rfl (nb hn rfl) (fun hc => trivial) (fun hc => q_fieldAddr rfl rfl Try.underlying95 rfl sz3) ?_
  refine stepG [(22, _)] (guard_some rfl rfl rfl) rfl (nb hn rfl) (fun hc => ⟨⟨_, rfl, hc⟩, trivial⟩) (fun hc => q_load rfl rfl (id := 3) rfl Try.underlying3 rfl rfl sees0) ?_
  refine stepW (s_call [(21, _), (23, _)] (fun hc => house_ok _ _) rfl (guard_some rfl rfl rfl) rfl (nb hn rfl) (fun hc => ⟨⟨_, rfl, hc⟩, ⟨_, rfl, hc⟩, trivial⟩) rfl rfl (.refl _)) fun _ => ?_
  refine sq rfl rfl hn rfl (q_and rfl rfl rfl (by simp_all)) ?_
  refine sq rfl rfl hn rfl (q_move rfl rfl) ?_
  refine stepG [] (guard_some rfl rfl rfl) rfl (nb hn rfl) (fun hc => trivial) (fun hc => q_fieldAddr rfl rfl Try.underlying95 rfl sz3) ?_
  refine stepG [(27, _)] (guard_some rfl rfl rfl) rfl (nb hn rfl) (fun hc => ⟨⟨_, rfl, hc⟩, trivial⟩) (fun hc => q_load rfl rfl (id := 3) rfl Try.underlying3 rfl rfl sees0) ?_
  refine stepG [] (guard_some rfl rfl rfl) rfl (nb hn rfl) (fun hc => trivial) (fun hc => q_fieldAddr rfl rfl Try.underlying95 rfl sz3) ?_
  refine stepG [(29, _)] (guard_some rfl rfl rfl) rfl (nb hn rfl) (fun hc => ⟨⟨_, rfl, hc⟩, trivial⟩) (fun hc => q_load rfl rfl (id := 3) rfl Try.underlying3 rfl rfl sees0) ?_
  refine stepG [(28, _), (30, _)] (guard_some rfl rfl rfl) rfl (nb hn rfl) (fun hc => ⟨⟨_, rfl, hc⟩, ⟨_, rfl, hc⟩, trivial⟩) (fun hc => q_neq rfl rfl rfl) ?_
  refine sq rfl rfl hn rfl (q_and rfl rfl rfl (by simp_all)) ?_
  refine sq rfl rfl hn rfl (q_move rfl rfl) ?_
  refine stepG [] (guard_some rfl rfl rfl) rfl (nb hn rfl) (fun hc => trivial) (fun hc => q_fieldAddr rfl rfl Try.underlying95 rfl sz45) ?_
  refine stepG [(34, _)] (guard_some rfl rfl rfl) rfl (nb hn rfl) (fun hc => ⟨⟨_, rfl, hc⟩, trivial⟩) (fun hc => q_fieldAddr rfl rfl Try.underlying45 rfl sz3) ?_
  refine stepG [(35, _)] (guard_some rfl rfl rfl) rfl (nb hn rfl) (fun hc => ⟨⟨_, rfl, hc⟩, trivial⟩) (fun hc => q_load rfl rfl (id := 3) rfl Try.underlying3 rfl rfl sees0) ?_
  refine stepW (s_call [(36, _)] (fun hc => day_ok _) rfl (guard_some rfl rfl rfl) rfl (nb hn rfl) (fun hc => ⟨⟨_, rfl, hc⟩, trivial⟩) rfl rfl (.refl _)) fun _ => ?_
  refine sq rfl rfl hn rfl (q_and rfl rfl rfl (by simp_all)) ?_
  refine sq rfl rfl hn rfl (q_move rfl rfl) ?_
  refine stepG [] (guard_some rfl rfl rfl) rfl (nb hn rfl) (fun hc => trivial) (fun hc => q_fieldAddr rfl rfl Try.underlying95 rfl sz45) ?_
  refine stepG [(40, _)] (guard_some rfl rfl rfl) rfl (nb hn rfl) (fun hc => ⟨⟨_, rfl, hc⟩, trivial⟩) (fun hc => q_fieldAddr rfl rfl Try.underlying45 rfl sz3) ?_
  refine stepG [(41, _)] (guard_some rfl rfl rfl) rfl (nb hn rfl) (fun hc => ⟨⟨_, rfl, hc⟩, trivial⟩) (fun hc => q_load rfl rfl (id := 3) rfl Try.underlying3 rfl rfl sees0) ?_
  refine stepW (s_call [(42, _)] (fun hc => day_ok _) rfl (guard_some rfl rfl rfl) rfl (nb hn rfl) (fun hc => ⟨⟨_, rfl, hc⟩, trivial⟩) rfl rfl (.refl _)) fun _ => ?_
  refine sq rfl rfl hn rfl (q_and rfl rfl rfl (by simp_all)) ?_
  refine sq rfl rfl hn rfl (q_move rfl rfl) ?_
  refine stepG [] (guard_some rfl rfl rfl) rfl (nb hn rfl) (fun hc => trivial) (fun hc => q_fieldAddr rfl rfl Try.underlying95 rfl sz45) ?_
  refine stepG [(46, _)] (guard_some rfl rfl rfl) rfl (nb hn rfl) (fun hc => ⟨⟨_, rfl, hc⟩, trivial⟩) (fun hc => q_fieldAddr rfl rfl Try.underlying45 rfl sz3) ?_
  refine stepG [(47, _)] (guard_some rfl rfl rfl) rfl (nb hn rfl) (fun hc => ⟨⟨_, rfl, hc⟩, trivial⟩) (fun hc => q_load rfl rfl (id := 3) rfl Try.underlying3 rfl rfl sees0) ?_
  refine stepG [] (guard_some rfl rfl rfl) rfl (nb hn rfl) (fun hc => trivial) (fun hc => q_fieldAddr rfl rfl Try.underlying95 rfl sz45) ?_
  refine stepG [(49, _)] (guard_some rfl rfl rfl) rfl (nb hn rfl) (fun hc => ⟨⟨_, rfl, hc⟩, trivial⟩) (fun hc => q_fieldAddr rfl rfl Try.underlying45 rfl sz3) ?_
  refine stepG [(50, _)] (guard_some rfl rfl rfl) rfl (nb hn rfl) (fun hc => ⟨⟨_, rfl, hc⟩, trivial⟩) (fun hc => q_load rfl rfl (id := 3) rfl Try.underlying3 rfl rfl sees0) ?_
  refine stepG [(48, _), (51, _)] (guard_some rfl rfl rfl) rfl (nb hn rfl) (fun hc => ⟨⟨_, rfl, hc⟩, ⟨_, rfl, hc⟩, trivial⟩) (fun hc => q_leq rfl rfl rfl) ?_
  refine sq rfl rfl hn rfl (q_and rfl rfl rfl (by simp_all)) ?_
  refine sq rfl rfl hn rfl (q_assign rfl rfl) ?_
  refine run_nil ?_
  refine aend_then ?_
  refine awp_ret ?_
  refine ret_eq (ret_1 (.inl rfl) hl rfl (.tmp rfl)) ?_
  simp [entryB, Bool.and_assoc]
theorem sight_ok (r : Reg) (s : Sight5) : PureAt Try.prog 75 [regD r, .agg (sightE s)] (.bool (sightB r s)) := by
  refine PureAt.of_awp Try.func75 rfl (by kernel_rfl) (Nat.le_of_ble_eq_true rfl) fun Γ hn hl => ?_
  refine awp_seq ?_
  refine awp_region ?_
  refine stepW (s_box 2 rfl rfl rfl (nb hn rfl) rfl rfl) fun b2 => ?_
  refine stepW (s_box 3 rfl rfl rfl (nb hn rfl) rfl rfl) fun b3 => ?_
  refine sq rfl rfl hn rfl (q_assign rfl rfl) ?_
  refine run_nil ?_
  refine aend_then ?_
  refine awp_seq ?_
  refine awp_region ?_
  refine sq rfl rfl hn rfl (q_loadAd rfl rfl (id := 2) rfl Try.underlying35 rfl sz35 rfl rfl sees0) ?_
  refine sq rfl rfl hn rfl (q_fieldAddr rfl rfl Try.underlying92 rfl sz3) ?_
  refine sq rfl rfl hn rfl (q_load rfl rfl (id := 3) rfl Try.underlying3 rfl rfl sees0) ?_
  refine stepW (s_call [] (fun _ => sheet_ok _ _) rfl (guard_none rfl) rfl (nb hn rfl) (fun _ => trivial) rfl rfl (.refl _)) fun _ => ?_
  refine sq rfl rfl hn rfl (q_move rfl rfl) ?_
  refine stepG [] (guard_some rfl rfl rfl) rfl (nb hn rfl) (fun hc => trivial) (fun hc => q_loadAd rfl rfl (id := 2) rfl Try.underlying35 rfl sz35 rfl rfl sees0) ?_
  refine stepG [] (guard_some rfl rfl rfl) rfl (nb hn rfl) (fun hc => trivial) (fun hc => q_fieldAddr rfl rfl Try.underlying92 rfl sz3) ?_
  refine stepG [(11, _)] (guard_some rfl rfl rfl) rfl (nb hn rfl) (fun hc => ⟨⟨_, rfl, hc⟩, trivial⟩) (fun hc => q_load rfl rfl (id := 3) rfl Try.underlying3 rfl rfl sees0) ?_
  refine stepW (s_call [(10, _), (12, _)] (fun hc => house_ok _ _) rfl (guard_some rfl rfl rfl) rfl (nb hn rfl) (fun hc => ⟨⟨_, rfl, hc⟩, ⟨_, rfl, hc⟩, trivial⟩) rfl rfl (.refl _)) fun _ => ?_
  refine sq rfl rfl hn rfl (q_and rfl rfl rfl (by simp_all)) ?_
  refine sq rfl rfl hn rfl (q_move rfl rfl) ?_
  refine stepG [] (guard_some rfl rfl rfl) rfl (nb hn rfl) (fun hc => trivial) (fun hc => q_fieldAddr rfl rfl Try.underlying92 rfl sz3) ?_
  refine stepG [(16, _)] (guard_some rfl rfl rfl) rfl (nb hn rfl) (fun hc => ⟨⟨_, rfl, hc⟩, trivial⟩) (fun hc => q_load rfl rfl (id := 3) rfl Try.underlying3 rfl rfl sees0) ?_
  refine stepW (s_call [(17, _)] (fun hc => day_ok _) rfl (guard_some rfl rfl rfl) rfl (nb hn rfl) (fun hc => ⟨⟨_, rfl, hc⟩, trivial⟩) rfl rfl (.refl _)) fun _ => ?_
  refine sq rfl rfl hn rfl (q_and rfl rfl rfl (by simp_all)) ?_
  refine sq rfl rfl hn rfl (q_assign rfl rfl) ?_
  refine run_nil ?_
  refine aend_then ?_
  refine awp_ret ?_
  refine ret_eq (ret_1 (.inl rfl) hl rfl (.tmp rfl)) ?_
  simp [sightB, Bool.and_assoc]
theorem IndexFunc_int (l : List Int) (p : Int → Bool) (g : FuncId) (fi ca : List D) (hp : ∀ x ∈ l, PureAt Try.prog g (fi ++ [.int .i64 x] ++ ca) (.bool (p x))) : PureAt Try.prog 116 [ints l, .fn (.func g) fi ca] (.int .i64 (idxOf p l)) := by
  refine PureAt.of_awp' Try.func116 rfl (by kernel_rfl) rfl fun hlen Γ hn hl => ?_
  have hl5 := hlen.1; simp only [List.length_map] at hl5
  refine awp_seq ?_
  refine awp_region ?_
  refine sq rfl rfl hn rfl (q_assign rfl rfl) ?_
  refine run_nil ?_
  refine aend_then ?_
  refine awp_seq ?_
  refine awp_seq ?_
  refine awp_region ?_
  refine sq rfl rfl hn rfl (q_move rfl rfl) ?_
  refine sq rfl rfl hn rfl (q_len rfl rfl Try.underlying22) ?_
  refine sq rfl rfl hn rfl (q_move rfl rfl) ?_
  refine run_nil ?_
  refine aend_then ?_
  refine awp_block ?_
  refine awp_loop_on (ι := { i : Nat // i ≤ l.length ∧ (l.take i).all (fun x => !p x) = true }) (fun i => (8, true, .d (.int .i64 (i.1 : Int))) :: anys [9, 10, 5, 11, 12, 13, 14, 15, 16, 18]) (fun i => []) (fun i => l.length - i.1) ⟨0, by simp⟩ ⟨.inl rfl, holdT_anys _⟩ trivial ?_
  rintro ⟨i, hi, hall⟩
  dsimp only
  refine awp_seq ?_
  refine awp_region ?_
  refine sq rfl rfl hn rfl (q_lss rfl rfl rfl) ?_
  refine run_nil ?_
  refine aend_then ?_
  refine awp_seq ?_
  refine awp_cond rfl (fun hb0 => ?_) (fun hb0 => ?_)
  · try simp only [decide_eq_true_eq, decide_eq_false_iff_not, Bool.and_eq_true, Bool.or_eq_true, Bool.and_eq_false_iff, Bool.or_eq_false_iff, Bool.not_eq_true', Bool.not_eq_false', beq_iff_eq, bne_iff_ne, ne_eq, beq_eq_false_iff_ne, bne_eq_false_iff_eq, Int.not_lt, Int.not_le] at hb0
    have hlt : i < l.length := by simpa using hb0
    obtain ⟨x, hx⟩ := ex_get hlt
    refine awp_skip ?_
    refine aend_then ?_
    refine awp_seq ?_
    refine awp_block ?_
    refine awp_seq ?_
    refine awp_region ?_
    refine sq rfl rfl hn rfl (q_move rfl rfl) ?_
    refine sq rfl rfl hn rfl (q_assign rfl rfl) ?_
    refine run_nil ?_
    refine aend_then ?_
    refine awp_seq ?_
    refine awp_region ?_
    refine sq rfl rfl hn rfl (q_move rfl rfl) ?_
    refine sq rfl rfl hn rfl (q_move rfl rfl) ?_
    refine sq rfl rfl hn rfl (q_move rfl rfl) ?_
    refine sq rfl rfl hn rfl (q_index rfl rfl rfl Try.underlying22 sz3 rfl (mget hx)) ?_
    refine sq rfl rfl hn rfl (q_loadp rfl rfl Try.underlying3 rfl seesF0) ?_
    refine stepW (s_call [] (fun _ => hp x (List.mem_of_getElem? hx)) rfl (guard_none rfl) rfl (nb hn rfl) (fun _ => trivial) rfl rfl (.refl _)) fun _ => ?_
    refine run_nil ?_
    refine aend_then ?_
    refine awp_cond rfl (fun hb1 => ?_) (fun hb1 => ?_)
    · try simp only [decide_eq_true_eq, decide_eq_false_iff_not, Bool.and_eq_true, Bool.or_eq_true, Bool.and_eq_false_iff, Bool.or_eq_false_iff, Bool.not_eq_true', Bool.not_eq_false', beq_iff_eq, bne_iff_ne, ne_eq, beq_eq_false_iff_ne, bne_eq_false_iff_eq, Int.not_lt, Int.not_le] at hb1
      refine awp_seq ?_
      refine awp_region ?_
      refine sq rfl rfl hn rfl (q_move rfl rfl) ?_
      refine sq rfl rfl hn rfl (q_assign rfl rfl) ?_
      refine run_nil ?_
      refine aend_then ?_
      refine awp_ret ?_
      refine aend_block_ret ?_
      refine aend_then_ret ?_
      refine aend_then_ret ?_
      refine aend_block_ret ?_
      refine aend_then_ret ?_
      refine ret_eq (ret_1 (.inl rfl) hl rfl (.tmp rfl)) ?_
      rw [idxOf_hit hx hall (by simpa using hb1)]
    · try simp only [decide_eq_true_eq, decide_eq_false_iff_not, Bool.and_eq_true, Bool.or_eq_true, Bool.and_eq_false_iff, Bool.or_eq_false_iff, Bool.not_eq_true', Bool.not_eq_false', beq_iff_eq, bne_iff_ne, ne_eq, beq_eq_false_iff_ne, bne_eq_false_iff_eq, Int.not_lt, Int.not_le] at hb1
      refine awp_skip ?_
      refine aend_block ?_
      refine aend_then ?_
      refine awp_region ?_
      refine sq rfl rfl hn rfl (q_add rfl rfl rfl (r := ((i + 1 : Nat) : Int)) (i64w (by omega) (by omega))) ?_
      refine sq rfl rfl hn rfl (q_move rfl rfl) ?_
      refine run_nil ?_
      exact aend_round_on ⟨i + 1, by omega, take_all_succ hx hall (by simp [hb1])⟩ ⟨.inl rfl, holdT_anys _⟩ trivial (by simp only; omega) (by repeat (first | exact kr _ | refine kc rfl ?_)) (by repeat (first | exact kr _ | refine kc rfl ?_))
  · try simp only [decide_eq_true_eq, decide_eq_false_iff_not, Bool.and_eq_true, Bool.or_eq_true, Bool.and_eq_false_iff, Bool.or_eq_false_iff, Bool.not_eq_true', Bool.not_eq_false', beq_iff_eq, bne_iff_ne, ne_eq, beq_eq_false_iff_ne, bne_eq_false_iff_eq, Int.not_lt, Int.not_le] at hb0
    refine awp_exit ?_
    refine aend_then_exit ?_
    refine aend_then_exit ?_
    refine aend_block_exit ?_
    refine aend_then ?_
    refine awp_seq ?_
    refine awp_region ?_
    refine sq rfl rfl hn rfl (q_assign rfl rfl) ?_
    refine run_nil ?_
    refine aend_then ?_
    refine awp_ret ?_
    refine ret_eq (ret_1 (.inl rfl) hl rfl (.tmp rfl)) ?_
    have hi2 : i = l.length := by simp only [List.length_map] at hb0; omega
    subst hi2; rw [List.take_length] at hall; rw [idxOf_miss hall]
theorem ContainsFunc_int (l : List Int) (p : Int → Bool) (g : FuncId) (fi ca : List D) (hp : ∀ x ∈ l, PureAt Try.prog g (fi ++ [.int .i64 x] ++ ca) (.bool (p x))) : PureAt Try.prog 95 [ints l, .fn (.func g) fi ca] (.bool (l.any p)) := by
  refine PureAt.of_awp Try.func95 rfl (by kernel_rfl) (Nat.le_of_ble_eq_true rfl) fun Γ hn hl => ?_
  refine awp_seq ?_
  refine awp_region ?_
  refine sq rfl rfl hn rfl (q_assign rfl rfl) ?_
  refine run_nil ?_
  refine aend_then ?_
  refine awp_seq ?_
  refine awp_region ?_
  refine sq rfl rfl hn rfl (q_move rfl rfl) ?_
  refine sq rfl rfl hn rfl (q_move rfl rfl) ?_
  refine stepW (s_call [] (fun _ => IndexFunc_int l p g fi ca hp) rfl (guard_none rfl) rfl (nb hn rfl) (fun _ => trivial) rfl rfl (.refl _)) fun _ => ?_
  refine sq rfl rfl hn rfl (q_geq rfl rfl rfl) ?_
  refine sq rfl rfl hn rfl (q_assign rfl rfl) ?_
  refine run_nil ?_
  refine aend_then ?_
  refine awp_ret ?_
  refine ret_eq (ret_1 (.inl rfl) hl rfl (.tmp rfl)) ?_
  rw [idxOf_nonneg]
theorem all1_int (x : Int) (b : Bool) (g : FuncId) (fi ca : List D) (hp : PureAt Try.prog g (fi ++ [.int .i64 x] ++ ca) (.bool b)) : PureAt Try.prog 96 [.int .i64 x, .ptr [.fn (.func g) fi ca]] (.bool (!b)) := by
  refine PureAt.of_awp Try.func96 rfl (by kernel_rfl) (Nat.le_of_ble_eq_true rfl) fun Γ hn hl => ?_
  refine awp_seq ?_
  refine awp_region ?_
  refine sq rfl rfl hn rfl (q_assign rfl rfl) ?_
  refine run_nil ?_
  refine aend_then ?_
  refine awp_seq ?_
  refine awp_region ?_
  refine sq rfl rfl hn rfl (q_loadp rfl rfl Try.underlying101 rfl seesF0) ?_
  refine sq rfl rfl hn rfl (q_move rfl rfl) ?_
  refine stepW (s_call [] (fun _ => hp) rfl (guard_none rfl) rfl (nb hn rfl) (fun _ => trivial) rfl rfl (.refl _)) fun _ => ?_
  refine sq rfl rfl hn rfl (q_not rfl rfl) ?_
  refine sq rfl rfl hn rfl (q_assign rfl rfl) ?_
  refine run_nil ?_
  refine aend_then ?_
  refine awp_ret ?_
  exact ret_1 (.inl rfl) hl rfl (.tmp rfl)
theorem all_int (l : List Int) (p : Int → Bool) (g : FuncId) (fi ca : List D) (hp : ∀ x ∈ l, PureAt Try.prog g (fi ++ [.int .i64 x] ++ ca) (.bool (p x))) : PureAt Try.prog 76 [ints l, .fn (.func g) fi ca] (.bool (l.all p)) := by
  refine PureAt.of_awp Try.func76 rfl (by kernel_rfl) (Nat.le_of_ble_eq_true rfl) fun Γ hn hl => ?_
  refine awp_seq ?_
  refine awp_region ?_
  refine stepW (s_box 3 rfl rfl rfl (nb hn rfl) rfl rfl) fun b3 => ?_
  refine sq rfl rfl hn rfl (q_assign rfl rfl) ?_
  refine run_nil ?_
  refine aend_then ?_
  refine awp_seq ?_
  refine awp_region ?_
  refine sq rfl rfl hn rfl (q_move rfl rfl) ?_
  refine gh_run (g_freeze (t := 3) 3 rfl (nb hn rfl) rfl rfl trivial) ?_
  refine sq rfl rfl hn rfl (q_makeFuncd rfl rfl rfl) ?_
  refine stepW (s_call [] (fun _ => ContainsFunc_int l (fun x => !p x) _ [] [.ptr [.fn (.func g) fi ca]] (fun x hx => all1_int x _ g fi ca (hp x hx))) rfl (guard_none rfl) rfl (nb hn rfl) (fun _ => trivial) rfl rfl (.refl _)) fun _ => ?_
  refine sq rfl rfl hn rfl (q_not rfl rfl) ?_
  refine sq rfl rfl hn rfl (q_assign rfl rfl) ?_
  refine run_nil ?_
  refine aend_then ?_
  refine awp_ret ?_
  refine ret_eq (ret_1 (.inl rfl) hl rfl (.tmp rfl)) ?_
  rw [List.all_eq_not_any_not]
theorem IndexFunc_ent (l : List Ent5) (p : Ent5 → Bool) (g : FuncId) (fi ca : List D) (hp : ∀ x ∈ l, PureAt Try.prog g (fi ++ [.agg (entE x)] ++ ca) (.bool (p x))) : PureAt Try.prog 117 [entsD l, .fn (.func g) fi ca] (.int .i64 (idxOf p l)) := by
  refine PureAt.of_awp' Try.func117 rfl (by kernel_rfl) rfl fun hlen Γ hn hl => ?_
  have hl5 := hlen.1; simp only [List.length_map] at hl5
  refine awp_seq ?_
  refine awp_region ?_
  refine sq rfl rfl hn rfl (q_assign rfl rfl) ?_
  refine run_nil ?_
  refine aend_then ?_
  refine awp_seq ?_
  refine awp_seq ?_
  refine awp_region ?_
  refine sq rfl rfl hn rfl (q_move rfl rfl) ?_
  refine sq rfl rfl hn rfl (q_len rfl rfl Try.underlying32) ?_
  refine sq rfl rfl hn rfl (q_move rfl rfl) ?_
  refine run_nil ?_
  refine aend_then ?_
  refine awp_block ?_
  refine awp_loop_on (ι := { i : Nat // i ≤ l.length ∧ (l.take i).all (fun x => !p x) = true }) (fun i => (8, true, .d (.int .i64 (i.1 : Int))) :: anys [9, 10, 5, 11, 12, 13, 14, 15, 16, 18]) (fun i => []) (fun i => l.length - i.1) ⟨0, by simp⟩ ⟨.inl rfl, holdT_anys _⟩ trivial ?_
  rintro ⟨i, hi, hall⟩
  dsimp only
  refine awp_seq ?_
  refine awp_region ?_
  refine sq rfl rfl hn rfl (q_lss rfl rfl rfl) ?_
  refine run_nil ?_
  refine aend_then ?_
  refine awp_seq ?_
  refine awp_cond rfl (fun hb0 => ?_) (fun hb0 => ?_)
  · try simp only [decide_eq_true_eq, decide_eq_false_iff_not, Bool.and_eq_true, Bool.or_eq_true, Bool.and_eq_false_iff, Bool.or_eq_false_iff, Bool.not_eq_true', Bool.not_eq_false', beq_iff_eq, bne_iff_ne, ne_eq, beq_eq_false_iff_ne, bne_eq_false_iff_eq, Int.not_lt, Int.not_le] at hb0
    have hlt : i < l.length := by simpa using hb0
    obtain ⟨x, hx⟩ := ex_get hlt
    refine awp_skip ?_
    refine aend_then ?_
    refine awp_seq ?_
    refine awp_block ?_
    refine awp_seq ?_
    refine awp_region ?_
    refine sq rfl rfl hn rfl (q_move rfl rfl) ?_
    refine sq rfl rfl hn rfl (q_assign rfl rfl) ?_
    refine run_nil ?_
    refine aend_then ?_
    refine awp_seq ?_
    refine awp_region ?_
    refine sq rfl rfl hn rfl (q_move rfl rfl) ?_
    refine sq rfl rfl hn rfl (q_move rfl rfl) ?_
    refine sq rfl rfl hn rfl (q_move rfl rfl) ?_
    refine sq rfl rfl hn rfl (q_index rfl rfl rfl Try.underlying32 sz95 rfl (mget hx)) ?_
    refine sq rfl rfl hn rfl (q_loadpA rfl rfl Try.underlying95 rfl sz95 rfl rfl seesF0) ?_
    refine stepW (s_call [] (fun _ => hp x (List.mem_of_getElem? hx)) rfl (guard_none rfl) rfl (nb hn rfl) (fun _ => trivial) rfl rfl (.refl _)) fun _ => ?_
    refine run_nil ?_
    refine aend_then ?_
    refine awp_cond rfl (fun hb1 => ?_) (fun hb1 => ?_)
    · try simp only [decide_eq_true_eq, decide_eq_false_iff_not, Bool.and_eq_true, Bool.or_eq_true, Bool.and_eq_false_iff, Bool.or_eq_false_iff, Bool.not_eq_true', Bool.not_eq_false', beq_iff_eq, bne_iff_ne, ne_eq, beq_eq_false_iff_ne, bne_eq_false_iff_eq, Int.not_lt, Int.not_le] at hb1
      refine awp_seq ?_
      refine awp_region ?_
      refine sq rfl rfl hn rfl (q_move rfl rfl) ?_
      refine sq rfl rfl hn rfl (q_assign rfl rfl) ?_
      refine run_nil ?_
      refine aend_then ?_
      refine awp_ret ?_
      refine aend_block_ret ?_
      refine aend_then_ret ?_
      refine aend_then_ret ?_
      refine aend_block_ret ?_
      refine aend_then_ret ?_
      refine ret_eq (ret_1 (.inl rfl) hl rfl (.tmp rfl)) ?_
      rw [idxOf_hit hx hall (by simpa using hb1)]
    · try simp only [decide_eq_true_eq, decide_eq_false_iff_not, Bool.and_eq_true, Bool.or_eq_true, Bool.and_eq_false_iff, Bool.or_eq_false_iff, Bool.not_eq_true', Bool.not_eq_false', beq_iff_eq, bne_iff_ne, ne_eq, beq_eq_false_iff_ne, bne_eq_false_iff_eq, Int.not_lt, Int.not_le] at hb1
      refine awp_skip ?_
      refine aend_block ?_
      refine aend_then ?_
      refine awp_region ?_
      refine sq rfl rfl hn rfl (q_add rfl rfl rfl (r := ((i + 1 : Nat) : Int)) (i64w (by omega) (by omega))) ?_
      refine sq rfl rfl hn rfl (q_move rfl rfl) ?_
      refine run_nil ?_
      exact aend_round_on ⟨i + 1, by omega, take_all_succ hx hall (by simp [hb1])⟩ ⟨.inl rfl, holdT_anys _⟩ trivial (by simp only; omega) (by repeat (first | exact kr _ | refine kc rfl ?_)) (by repeat (first | exact kr _ | refine kc rfl ?_))
  · try simp only [decide_eq_true_eq, decide_eq_false_iff_not, Bool.and_eq_true, Bool.or_eq_true, Bool.and_eq_false_iff, Bool.or_eq_false_iff, Bool.not_eq_true', Bool.not_eq_false', beq_iff_eq, bne_iff_ne, ne_eq, beq_eq_false_iff_ne, bne_eq_false_iff_eq, Int.not_lt, Int.not_le] at hb0
    refine awp_exit ?_
    refine aend_then_exit ?_
    refine aend_then_exit ?_
    refine aend_block_exit ?_
    refine aend_then ?_
    refine awp_seq ?_
    refine awp_region ?_
    refine sq rfl rfl hn rfl (q_assign rfl rfl) ?_
    refine run_nil ?_
    refine aend_then ?_
    refine awp_ret ?_
    refine ret_eq (ret_1 (.inl rfl) hl rfl (.tmp rfl)) ?_
    have hi2 : i = l.length := by simp only [List.length_map] at hb0; omega
    subst hi2; rw [List.take_length] at hall; rw [idxOf_miss hall]
theorem ContainsFunc_ent (l : List Ent5) (p : Ent5 → Bool) (g : FuncId) (fi ca : List D) (hp : ∀ x ∈ l, PureAt Try.prog g (fi ++ [.agg (entE x)] ++ ca) (.bool (p x))) : PureAt Try.prog 97 [entsD l, .fn (.func g) fi ca] (.bool (l.any p)) := by
  refine PureAt.of_awp Try.func97 rfl (by kernel_rfl) (Nat.le_of_ble_eq_true rfl) fun Γ hn hl => ?_
  refine awp_seq ?_
  refine awp_region ?_
  refine sq rfl rfl hn rfl (q_assign rfl rfl) ?_
  refine run_nil ?_
  refine aend_then ?_
  refine awp_seq ?_
  refine awp_region ?_
  refine sq rfl rfl hn rfl (q_move rfl rfl) ?_
  refine sq rfl rfl hn rfl (q_move rfl rfl) ?_
  refine stepW (s_call [] (fun _ => IndexFunc_ent l p g fi ca hp) rfl (guard_none rfl) rfl (nb hn rfl) (fun _ => trivial) rfl rfl (.refl _)) fun _ => ?_
  refine sq rfl rfl hn rfl (q_geq rfl rfl rfl) ?_
  refine sq rfl rfl hn rfl (q_assign rfl rfl) ?_
  refine run_nil ?_
  refine aend_then ?_
  refine awp_ret ?_
  refine ret_eq (ret_1 (.inl rfl) hl rfl (.tmp rfl)) ?_
  rw [idxOf_nonneg]
theorem all1_ent (x : Ent5) (b : Bool) (g : FuncId) (fi ca : List D) (hp : PureAt Try.prog g (fi ++ [.agg (entE x)] ++ ca) (.bool b)) : PureAt Try.prog 98 [.agg (entE x), .ptr [.fn (.func g) fi ca]] (.bool (!b)) := by
  refine PureAt.of_awp Try.func98 rfl (by kernel_rfl) (Nat.le_of_ble_eq_true rfl) fun Γ hn hl => ?_
  refine awp_seq ?_
  refine awp_region ?_
  refine stepW (s_box 2 rfl rfl rfl (nb hn rfl) rfl rfl) fun b2 => ?_
  refine sq rfl rfl hn rfl (q_assign rfl rfl) ?_
  refine run_nil ?_
  refine aend_then ?_
  refine awp_seq ?_
  refine awp_region ?_
  refine sq rfl rfl hn rfl (q_loadp rfl rfl Try.underlying127 rfl seesF0) ?_
  refine sq rfl rfl hn rfl (q_loadAd rfl rfl (id := 2) rfl Try.underlying95 rfl sz95 rfl rfl sees0) ?_
  refine stepW (s_call [] (fun _ => hp) rfl (guard_none rfl) rfl (nb hn rfl) (fun _ => trivial) rfl rfl (.refl _)) fun _ => ?_
  refine sq rfl rfl hn rfl (q_not rfl rfl) ?_
  refine sq rfl rfl hn rfl (q_assign rfl rfl) ?_
  refine run_nil ?_
  refine aend_then ?_
  refine awp_ret ?_
  exact ret_1 (.inl rfl) hl rfl (.tmp rfl)
theorem all_ent (l : List Ent5) (p : Ent5 → Bool) (g : FuncId) (fi ca : List D) (hp : ∀ x ∈ l, PureAt Try.prog g (fi ++ [.agg (entE x)] ++ ca) (.bool (p x))) : PureAt Try.prog 77 [entsD l, .fn (.func g) fi ca] (.bool (l.all p)) := by
  refine PureAt.of_awp Try.func77 rfl (by kernel_rfl) (Nat.le_of_ble_eq_true rfl) fun Γ hn hl => ?_
  refine awp_seq ?_
  refine awp_region ?_
  refine stepW (s_box 3 rfl rfl rfl (nb hn rfl) rfl rfl) fun b3 => ?_
  refine sq rfl rfl hn rfl (q_assign rfl rfl) ?_
  refine run_nil ?_
  refine aend_then ?_
  refine awp_seq ?_
  refine awp_region ?_
  refine sq rfl rfl hn rfl (q_move rfl rfl) ?_
  refine gh_run (g_freeze (t := 3) 3 rfl (nb hn rfl) rfl rfl trivial) ?_
  refine sq rfl rfl hn rfl (q_makeFuncd rfl rfl rfl) ?_
  refine stepW (s_call [] (fun _ => ContainsFunc_ent l (fun x => !p x) _ [] [.ptr [.fn (.func g) fi ca]] (fun x hx => all1_ent x _ g fi ca (hp x hx))) rfl (guard_none rfl) rfl (nb hn rfl) (fun _ => trivial) rfl rfl (.refl _)) fun _ => ?_
  refine sq rfl rfl hn rfl (q_not rfl rfl) ?_
  refine sq rfl rfl hn rfl (q_assign rfl rfl) ?_
  refine run_nil ?_
  refine aend_then ?_
  refine awp_ret ?_
  refine ret_eq (ret_1 (.inl rfl) hl rfl (.tmp rfl)) ?_
  rw [List.all_eq_not_any_not]
theorem IndexFunc_sight (l : List Sight5) (p : Sight5 → Bool) (g : FuncId) (fi ca : List D) (hp : ∀ x ∈ l, PureAt Try.prog g (fi ++ [.agg (sightE x)] ++ ca) (.bool (p x))) : PureAt Try.prog 118 [sightsD l, .fn (.func g) fi ca] (.int .i64 (idxOf p l)) := by
  refine PureAt.of_awp' Try.func118 rfl (by kernel_rfl) rfl fun hlen Γ hn hl => ?_
  have hl5 := hlen.1; simp only [List.length_map] at hl5
  refine awp_seq ?_
  refine awp_region ?_
  refine sq rfl rfl hn rfl (q_assign rfl rfl) ?_
  refine run_nil ?_
  refine aend_then ?_
  refine awp_seq ?_
  refine awp_seq ?_
  refine awp_region ?_
  refine sq rfl rfl hn rfl (q_move rfl rfl) ?_
  refine sq rfl rfl hn rfl (q_len rfl rfl Try.underlying33) ?_
  refine sq rfl rfl hn rfl (q_move rfl rfl) ?_
  refine run_nil ?_
  refine aend_then ?_
  refine awp_block ?_
  refine awp_loop_on (ι := { i : Nat // i ≤ l.length ∧ (l.take i).all (fun x => !p x) = true }) (fun i => (8, true, .d (.int .i64 (i.1 : Int))) :: anys [9, 10, 5, 11, 12, 13, 14, 15, 16, 18]) (fun i => []) (fun i => l.length - i.1) ⟨0, by simp⟩ ⟨.inl rfl, holdT_anys _⟩ trivial ?_
  rintro ⟨i, hi, hall⟩
  dsimp only
  refine awp_seq ?_
  refine awp_region ?_
  refine sq rfl rfl hn rfl (q_lss rfl rfl rfl) ?_
  refine run_nil ?_
  refine aend_then ?_
  refine awp_seq ?_
  refine awp_cond rfl (fun hb0 => ?_) (fun hb0 => ?_)
  · try simp only [decide_eq_true_eq, decide_eq_false_iff_not, Bool.and_eq_true, Bool.or_eq_true, Bool.and_eq_false_iff, Bool.or_eq_false_iff, Bool.not_eq_true', Bool.not_eq_false', beq_iff_eq, bne_iff_ne, ne_eq, beq_eq_false_iff_ne, bne_eq_false_iff_eq, Int.not_lt, Int.not_le] at hb0
    have hlt : i < l.length := by simpa using hb0
    obtain ⟨x, hx⟩ := ex_get hlt
    refine awp_skip ?_
    refine aend_then ?_
    refine awp_seq ?_
    refine awp_block ?_
    refine awp_seq ?_
    refine awp_region ?_
    refine sq rfl rfl hn rfl (q_move rfl rfl) ?_
    refine sq rfl rfl hn rfl (q_assign rfl rfl) ?_
    refine run_nil ?_
    refine aend_then ?_
    refine awp_seq ?_
    refine awp_region ?_
    refine sq rfl rfl hn rfl (q_move rfl rfl) ?_
    refine sq rfl rfl hn rfl (q_move rfl rfl) ?_
    refine sq rfl rfl hn rfl (q_move rfl rfl) ?_
    refine sq rfl rfl hn rfl (q_index rfl rfl rfl Try.underlying33 sz92 rfl (mget hx)) ?_
    refine sq rfl rfl hn rfl (q_loadpA rfl rfl Try.underlying92 rfl sz92 rfl rfl seesF0) ?_
    refine stepW (s_call [] (fun _ => hp x (List.mem_of_getElem? hx)) rfl (guard_none rfl) rfl (nb hn rfl) (fun _ => trivial) rfl rfl (.refl _)) fun _ => ?_
    refine run_nil ?_
    refine aend_then ?_
    refine awp_cond rfl (fun hb1 => ?_) (fun hb1 => ?_)
    · try simp only [decide_eq_true_eq, decide_eq_false_iff_not, Bool.and_eq_true, Bool.or_eq_true, Bool.and_eq_false_iff, Bool.or_eq_false_iff, Bool.not_eq_true', Bool.not_eq_false', beq_iff_eq, bne_iff_ne, ne_eq, beq_eq_false_iff_ne, bne_eq_false_iff_eq, Int.not_lt, Int.not_le] at hb1
      refine awp_seq ?_
      refine awp_region ?_
      refine sq rfl rfl hn rfl (q_move rfl rfl) ?_
      refine sq rfl rfl hn rfl (q_assign rfl rfl) ?_
      refine run_nil ?_
      refine aend_then ?_
      refine awp_ret ?_
      refine aend_block_ret ?_
      refine aend_then_ret ?_
      refine aend_then_ret ?_
      refine aend_block_ret ?_
      refine aend_then_ret ?_
      refine ret_eq (ret_1 (.inl rfl) hl rfl (.tmp rfl)) ?_
      rw [idxOf_hit hx hall (by simpa using hb1)]
    · try simp only [decide_eq_true_eq, decide_eq_false_iff_not, Bool.and_eq_true, Bool.or_eq_true, Bool.and_eq_false_iff, Bool.or_eq_false_iff, Bool.not_eq_true', Bool.not_eq_false', beq_iff_eq, bne_iff_ne, ne_eq, beq_eq_false_iff_ne, bne_eq_false_iff_eq, Int.not_lt, Int.not_le] at hb1
      refine awp_skip ?_
      refine aend_block ?_
      refine aend_then ?_
      refine awp_region ?_
      refine sq rfl rfl hn rfl (q_add rfl rfl rfl (r := ((i + 1 : Nat) : Int)) (i64w (by omega) (by omega))) ?_
      refine sq rfl rfl hn rfl (q_move rfl rfl) ?_
      refine run_nil ?_
      exact aend_round_on ⟨i + 1, by omega, take_all_succ hx hall (by simp [hb1])⟩ ⟨.inl rfl, holdT_anys _⟩ trivial (by simp only; omega) (by repeat (first | exact kr _ | refine kc rfl ?_)) (by repeat (first | exact kr _ | refine kc rfl ?_))
  · try simp only [decide_eq_true_eq, decide_eq_false_iff_not, Bool.and_eq_true, Bool.or_eq_true, Bool.and_eq_false_iff, Bool.or_eq_false_iff, Bool.not_eq_true', Bool.not_eq_false', beq_iff_eq, bne_iff_ne, ne_eq, beq_eq_false_iff_ne, bne_eq_false_iff_eq, Int.not_lt, Int.not_le] at hb0
    refine awp_exit ?_
    refine aend_then_exit ?_
    refine aend_then_exit ?_
    refine aend_block_exit ?_
    refine aend_then ?_
    refine awp_seq ?_
    refine awp_region ?_
    refine sq rfl rfl hn rfl (q_assign rfl rfl) ?_
    refine run_nil ?_
    refine aend_then ?_
    refine awp_ret ?_
    refine ret_eq (ret_1 (.inl rfl) hl rfl (.tmp rfl)) ?_
    have hi2 : i = l.length := by simp only [List.length_map] at hb0; omega
    subst hi2; rw [List.take_length] at hall; rw [idxOf_miss hall]
theorem ContainsFunc_sight (l : List Sight5) (p : Sight5 → Bool) (g : FuncId) (fi ca : List D) (hp : ∀ x ∈ l, PureAt Try.prog g (fi ++ [.agg (sightE x)] ++ ca) (.bool (p x))) : PureAt Try.prog 99 [sightsD l, .fn (.func g) fi ca] (.bool (l.any p)) := by
  refine PureAt.of_awp Try.func99 rfl (by kernel_rfl) (Nat.le_of_ble_eq_true rfl) fun Γ hn hl => ?_
  refine awp_seq ?_
  refine awp_region ?_
  refine sq rfl rfl hn rfl (q_assign rfl rfl) ?_
  refine run_nil ?_
  refine aend_then ?_
  refine awp_seq ?_
  refine awp_region ?_
  refine sq rfl rfl hn rfl (q_move rfl rfl) ?_
  refine sq rfl rfl hn rfl (q_move rfl rfl) ?_
  refine stepW (s_call [] (fun _ => IndexFunc_sight l p g fi ca hp) rfl (guard_none rfl) rfl (nb hn rfl) (fun _ => trivial) rfl rfl (.refl _)) fun _ => ?_
  refine sq rfl rfl hn rfl (q_geq rfl rfl rfl) ?_
  refine sq rfl rfl hn rfl (q_assign rfl rfl) ?_
  refine run_nil ?_
  refine aend_then ?_
  refine awp_ret ?_
  refine ret_eq (ret_1 (.inl rfl) hl rfl (.tmp rfl)) ?_
  rw [idxOf_nonneg]
theorem all1_sight (x : Sight5) (b : Bool) (g : FuncId) (fi ca : List D) (hp : PureAt Try.prog g (fi ++ [.agg (sightE x)] ++ ca) (.bool b)) : PureAt Try.prog 100 [.agg (sightE x), .ptr [.fn (.func g) fi ca]] (.bool (!b)) := by
  refine PureAt.of_awp Try.func100 rfl (by kernel_rfl) (Nat.le_of_ble_eq_true rfl) fun Γ hn hl => ?_
  refine awp_seq ?_
  refine awp_region ?_
  refine stepW (s_box 2 rfl rfl rfl (nb hn rfl) rfl rfl) fun b2 => ?_
  refine sq rfl rfl hn rfl (q_assign rfl rfl) ?_
  refine run_nil ?_
  refine aend_then ?_
  refine awp_seq ?_
  refine awp_region ?_
  refine sq rfl rfl hn rfl (q_loadp rfl rfl Try.underlying128 rfl seesF0) ?_
  refine sq rfl rfl hn rfl (q_loadAd rfl rfl (id := 2) rfl Try.underlying92 rfl sz92 rfl rfl sees0) ?_
  refine stepW (s_call [] (fun _ => hp) rfl (guard_none rfl) rfl (nb hn rfl) (fun _ => trivial) rfl rfl (.refl _)) fun _ => ?_
  refine sq rfl rfl hn rfl (q_not rfl rfl) ?_
  refine sq rfl rfl hn rfl (q_assign rfl rfl) ?_
  refine run_nil ?_
  refine aend_then ?_
  refine awp_ret ?_
  exact ret_1 (.inl rfl) hl rfl (.tmp rfl)
theorem all_sight (l : List Sight5) (p : Sight5 → Bool) (g : FuncId) (fi ca : List D) (hp : ∀ x ∈ l, PureAt Try.prog g (fi ++ [.agg (sightE x)] ++ ca) (.bool (p x))) : PureAt Try.prog 78 [sightsD l, .fn (.func g) fi ca] (.bool (l.all p)) := by
  refine PureAt.of_awp Try.func78 rfl (by kernel_rfl) (Nat.le_of_ble_eq_true rfl) fun Γ hn hl => ?_
  refine awp_seq ?_
  refine awp_region ?_
  refine stepW (s_box 3 rfl rfl rfl (nb hn rfl) rfl rfl) fun b3 => ?_
  refine sq rfl rfl hn rfl (q_assign rfl rfl) ?_
  refine run_nil ?_
  refine aend_then ?_
  refine awp_seq ?_
  refine awp_region ?_
  refine sq rfl rfl hn rfl (q_move rfl rfl) ?_
  refine gh_run (g_freeze (t := 3) 3 rfl (nb hn rfl) rfl rfl trivial) ?_
  refine sq rfl rfl hn rfl (q_makeFuncd rfl rfl rfl) ?_
  refine stepW (s_call [] (fun _ => ContainsFunc_sight l (fun x => !p x) _ [] [.ptr [.fn (.func g) fi ca]] (fun x hx => all1_sight x _ g fi ca (hp x hx))) rfl (guard_none rfl) rfl (nb hn rfl) (fun _ => trivial) rfl rfl (.refl _)) fun _ => ?_
  refine sq rfl rfl hn rfl (q_not rfl rfl) ?_
  refine sq rfl rfl hn rfl (q_assign rfl rfl) ?_
  refine run_nil ?_
  refine aend_then ?_
  refine awp_ret ?_
  refine ret_eq (ret_1 (.inl rfl) hl rfl (.tmp rfl)) ?_
  rw [List.all_eq_not_any_not]
theorem IndexFunc_done (l : List Nat) (p : Nat → Bool) (g : FuncId) (fi ca : List D) (hp : ∀ x ∈ l, PureAt Try.prog g (fi ++ [.int .u64 (x : Nat)] ++ ca) (.bool (p x))) : PureAt Try.prog 114 [donesD l, .fn (.func g) fi ca] (.int .i64 (idxOf p l)) := by
  refine PureAt.of_awp' Try.func114 rfl (by kernel_rfl) rfl fun hlen Γ hn hl => ?_
  have hl5 := hlen.1; simp only [List.length_map] at hl5
  refine awp_seq ?_
  refine awp_region ?_
  refine sq rfl rfl hn rfl (q_assign rfl rfl) ?_
  refine run_nil ?_
  refine aend_then ?_
  refine awp_seq ?_
  refine awp_seq ?_
  refine awp_region ?_
  refine sq rfl rfl hn rfl (q_move rfl rfl) ?_
  refine sq rfl rfl hn rfl (q_len rfl rfl Try.underlying98) ?_
  refine sq rfl rfl hn rfl (q_move rfl rfl) ?_
  refine run_nil ?_
  refine aend_then ?_
  refine awp_block ?_
  refine awp_loop_on (ι := { i : Nat // i ≤ l.length ∧ (l.take i).all (fun x => !p x) = true }) (fun i => (8, true, .d (.int .i64 (i.1 : Int))) :: anys [9, 10, 5, 11, 12, 13, 14, 15, 16, 18]) (fun i => []) (fun i => l.length - i.1) ⟨0, by simp⟩ ⟨.inl rfl, holdT_anys _⟩ trivial ?_
  rintro ⟨i, hi, hall⟩
  dsimp only
  refine awp_seq ?_
  refine awp_region ?_
  refine sq rfl rfl hn rfl (q_lss rfl rfl rfl) ?_
  refine run_nil ?_
  refine aend_then ?_
  refine awp_seq ?_
  refine awp_cond rfl (fun hb0 => ?_) (fun hb0 => ?_)
  · try simp only [decide_eq_true_eq, decide_eq_false_iff_not, Bool.and_eq_true, Bool.or_eq_true, Bool.and_eq_false_iff, Bool.or_eq_false_iff, Bool.not_eq_true', Bool.not_eq_false', beq_iff_eq, bne_iff_ne, ne_eq, beq_eq_false_iff_ne, bne_eq_false_iff_eq, Int.not_lt, Int.not_le] at hb0
    have hlt : i < l.length := by simpa using hb0
    obtain ⟨x, hx⟩ := ex_get hlt
    refine awp_skip ?_
    refine aend_then ?_
    refine awp_seq ?_
    refine awp_block ?_
    refine awp_seq ?_
    refine awp_region ?_
    refine sq rfl rfl hn rfl (q_move rfl rfl) ?_
    refine sq rfl rfl hn rfl (q_assign rfl rfl) ?_
    refine run_nil ?_
    refine aend_then ?_
    refine awp_seq ?_
    refine awp_region ?_
    refine sq rfl rfl hn rfl (q_move rfl rfl) ?_
    refine sq rfl rfl hn rfl (q_move rfl rfl) ?_
    refine sq rfl rfl hn rfl (q_move rfl rfl) ?_
    refine sq rfl rfl hn rfl (q_index rfl rfl rfl Try.underlying98 sz102 rfl (mget hx)) ?_
    refine sq rfl rfl hn rfl (q_loadp rfl rfl Try.underlying102 rfl seesF0) ?_
    refine stepW (s_call [] (fun _ => hp x (List.mem_of_getElem? hx)) rfl (guard_none rfl) rfl (nb hn rfl) (fun _ => trivial) rfl rfl (.refl _)) fun _ => ?_
    refine run_nil ?_
    refine aend_then ?_
    refine awp_cond rfl (fun hb1 => ?_) (fun hb1 => ?_)
    · try simp only [decide_eq_true_eq, decide_eq_false_iff_not, Bool.and_eq_true, Bool.or_eq_true, Bool.and_eq_false_iff, Bool.or_eq_false_iff, Bool.not_eq_true', Bool.not_eq_false', beq_iff_eq, bne_iff_ne, ne_eq, beq_eq_false_iff_ne, bne_eq_false_iff_eq, Int.not_lt, Int.not_le] at hb1
      refine awp_seq ?_
      refine awp_region ?_
      refine sq rfl rfl hn rfl (q_move rfl rfl) ?_
      refine sq rfl rfl hn rfl (q_assign rfl rfl) ?_
      refine run_nil ?_
      refine aend_then ?_
      refine awp_ret ?_
      refine aend_block_ret ?_
      refine aend_then_ret ?_
      refine aend_then_ret ?_
      refine aend_block_ret ?_
      refine aend_then_ret ?_
      refine ret_eq (ret_1 (.inl rfl) hl rfl (.tmp rfl)) ?_
      rw [idxOf_hit hx hall (by simpa using hb1)]
    · try simp only [decide_eq_true_eq, decide_eq_false_iff_not, Bool.and_eq_true, Bool.or_eq_true, Bool.and_eq_false_iff, Bool.or_eq_false_iff, Bool.not_eq_true', Bool.not_eq_false', beq_iff_eq, bne_iff_ne, ne_eq, beq_eq_false_iff_ne, bne_eq_false_iff_eq, Int.not_lt, Int.not_le] at hb1
      refine awp_skip ?_
      refine aend_block ?_
      refine aend_then ?_
      refine awp_region ?_
      refine sq rfl rfl hn rfl (q_add rfl rfl rfl (r := ((i + 1 : Nat) : Int)) (i64w (by omega) (by omega))) ?_
      refine sq rfl rfl hn rfl (q_move rfl rfl) ?_
      refine run_nil ?_
      exact aend_round_on ⟨i + 1, by omega, take_all_succ hx hall (by simp [hb1])⟩ ⟨.inl rfl, holdT_anys _⟩ trivial (by simp only; omega) (by repeat (first | exact kr _ | refine kc rfl ?_)) (by repeat (first | exact kr _ | refine kc rfl ?_))
  · try simp only [decide_eq_true_eq, decide_eq_false_iff_not, Bool.and_eq_true, Bool.or_eq_true, Bool.and_eq_false_iff, Bool.or_eq_false_iff, Bool.not_eq_true', Bool.not_eq_false', beq_iff_eq, bne_iff_ne, ne_eq, beq_eq_false_iff_ne, bne_eq_false_iff_eq, Int.not_lt, Int.not_le] at hb0
    refine awp_exit ?_
    refine aend_then_exit ?_
    refine aend_then_exit ?_
    refine aend_block_exit ?_
    refine aend_then ?_
    refine awp_seq ?_
    refine awp_region ?_
    refine sq rfl rfl hn rfl (q_assign rfl rfl) ?_
    refine run_nil ?_
    refine aend_then ?_
    refine awp_ret ?_
    refine ret_eq (ret_1 (.inl rfl) hl rfl (.tmp rfl)) ?_
    have hi2 : i = l.length := by simp only [List.length_map] at hb0; omega
    subst hi2; rw [List.take_length] at hall; rw [idxOf_miss hall]
theorem ContainsFunc_done (l : List Nat) (p : Nat → Bool) (g : FuncId) (fi ca : List D) (hp : ∀ x ∈ l, PureAt Try.prog g (fi ++ [.int .u64 (x : Nat)] ++ ca) (.bool (p x))) : PureAt Try.prog 89 [donesD l, .fn (.func g) fi ca] (.bool (l.any p)) := by
  refine PureAt.of_awp Try.func89 rfl (by kernel_rfl) (Nat.le_of_ble_eq_true rfl) fun Γ hn hl => ?_
  refine awp_seq ?_
  refine awp_region ?_
  refine sq rfl rfl hn rfl (q_assign rfl rfl) ?_
  refine run_nil ?_
  refine aend_then ?_
  refine awp_seq ?_
  refine awp_region ?_
  refine sq rfl rfl hn rfl (q_move rfl rfl) ?_
  refine sq rfl rfl hn rfl (q_move rfl rfl) ?_
  refine stepW (s_call [] (fun _ => IndexFunc_done l p g fi ca hp) rfl (guard_none rfl) rfl (nb hn rfl) (fun _ => trivial) rfl rfl (.refl _)) fun _ => ?_
  refine sq rfl rfl hn rfl (q_geq rfl rfl rfl) ?_
  refine sq rfl rfl hn rfl (q_assign rfl rfl) ?_
  refine run_nil ?_
  refine aend_then ?_
  refine awp_ret ?_
  refine ret_eq (ret_1 (.inl rfl) hl rfl (.tmp rfl)) ?_
  rw [idxOf_nonneg]
theorem all1_done (x : Nat) (b : Bool) (g : FuncId) (fi ca : List D) (hp : PureAt Try.prog g (fi ++ [.int .u64 (x : Nat)] ++ ca) (.bool b)) : PureAt Try.prog 90 [.int .u64 (x : Nat), .ptr [.fn (.func g) fi ca]] (.bool (!b)) := by
  refine PureAt.of_awp Try.func90 rfl (by kernel_rfl) (Nat.le_of_ble_eq_true rfl) fun Γ hn hl => ?_
  refine awp_seq ?_
  refine awp_region ?_
  refine sq rfl rfl hn rfl (q_assign rfl rfl) ?_
  refine run_nil ?_
  refine aend_then ?_
  refine awp_seq ?_
  refine awp_region ?_
  refine sq rfl rfl hn rfl (q_loadp rfl rfl Try.underlying107 rfl seesF0) ?_
  refine sq rfl rfl hn rfl (q_move rfl rfl) ?_
  refine stepW (s_call [] (fun _ => hp) rfl (guard_none rfl) rfl (nb hn rfl) (fun _ => trivial) rfl rfl (.refl _)) fun _ => ?_
  refine sq rfl rfl hn rfl (q_not rfl rfl) ?_
  refine sq rfl rfl hn rfl (q_assign rfl rfl) ?_
  refine run_nil ?_
  refine aend_then ?_
  refine awp_ret ?_
  exact ret_1 (.inl rfl) hl rfl (.tmp rfl)
theorem all_done (l : List Nat) (p : Nat → Bool) (g : FuncId) (fi ca : List D) (hp : ∀ x ∈ l, PureAt Try.prog g (fi ++ [.int .u64 (x : Nat)] ++ ca) (.bool (p x))) : PureAt Try.prog 59 [donesD l, .fn (.func g) fi ca] (.bool (l.all p)) := by
  refine PureAt.of_awp Try.func59 rfl (by kernel_rfl) (Nat.le_of_ble_eq_true rfl) fun Γ hn hl => ?_
  refine awp_seq ?_
  refine awp_region ?_
  refine stepW (s_box 3 rfl rfl rfl (nb hn rfl) rfl rfl) fun b3 => ?_
  refine sq rfl rfl hn rfl (q_assign rfl rfl) ?_
  refine run_nil ?_
  refine aend_then ?_
  refine awp_seq ?_
  refine awp_region ?_
  refine sq rfl rfl hn rfl (q_move rfl rfl) ?_
  refine gh_run (g_freeze (t := 3) 3 rfl (nb hn rfl) rfl rfl trivial) ?_
  refine sq rfl rfl hn rfl (q_makeFuncd rfl rfl rfl) ?_
  refine stepW (s_call [] (fun _ => ContainsFunc_done l (fun x => !p x) _ [] [.ptr [.fn (.func g) fi ca]] (fun x hx => all1_done x _ g fi ca (hp x hx))) rfl (guard_none rfl) rfl (nb hn rfl) (fun _ => trivial) rfl rfl (.refl _)) fun _ => ?_
  refine sq rfl rfl hn rfl (q_not rfl rfl) ?_
  refine sq rfl rfl hn rfl (q_assign rfl rfl) ?_
  refine run_nil ?_
  refine aend_then ?_
  refine awp_ret ?_
  refine ret_eq (ret_1 (.inl rfl) hl rfl (.tmp rfl)) ?_
  rw [List.all_eq_not_any_not]
theorem CheckRegister_ok (r : Reg) : PureAt Try.prog 42 [regD r] (.int .i64 (checkE r)) := by
  refine PureAt.of_awp Try.func42 rfl (by kernel_rfl) (Nat.le_of_ble_eq_true rfl) fun Γ hn hl => ?_
  refine awp_seq ?_
  refine awp_region ?_
  refine stepW (s_box 1 rfl rfl rfl (nb hn rfl) rfl rfl) fun b1 => ?_
  refine sq rfl rfl hn rfl (q_assign rfl rfl) ?_
  refine run_nil ?_
  refine aend_then ?_
  refine awp_seq ?_
  refine d_start (W := fun b => b ≠ b1) fmo ?_
  refine d1q (i := 0) rfl (by kernel_rfl) (fun _ _ _ _ h => h) rfl rfl hn rfl (q_loadAd rfl rfl (id := 1) rfl Try.underlying35 rfl sz35 rfl rfl (seesA (by simp))) ?_
  refine d1q (i := 1) rfl (by kernel_rfl) (fun _ _ _ _ h => h) rfl rfl hn rfl (q_makeFuncd rfl rfl rfl) ?_
  refine d1q (i := 2) rfl (by kernel_rfl) (fun _ _ _ _ h => h) rfl rfl hn rfl (q_loadAd rfl rfl (id := 1) rfl Try.underlying35 rfl sz35 rfl rfl (seesA (by simp))) ?_
  refine d1q (i := 3) rfl (by kernel_rfl) (fun _ _ _ _ h => h) rfl rfl hn rfl (q_makeFuncd rfl rfl rfl) ?_
  refine d1q (i := 4) rfl (by kernel_rfl) (fun _ _ _ _ h => h) rfl rfl hn rfl (q_loadAd rfl rfl (id := 1) rfl Try.underlying35 rfl sz35 rfl rfl (seesA (by simp))) ?_
  refine d1q (i := 5) rfl (by kernel_rfl) (fun _ _ _ _ h => h) rfl rfl hn rfl (q_makeFuncd rfl rfl rfl) ?_
  refine d1q (i := 6) rfl (by kernel_rfl) (fun _ _ _ _ h => h) rfl rfl hn rfl (q_assign rfl rfl) ?_
  refine d1q (i := 7) rfl (by kernel_rfl) (fun _ _ _ _ h => h) rfl rfl hn rfl (q_assign rfl rfl) ?_
  refine d1q (i := 8) rfl (by kernel_rfl) (fun _ _ _ _ h => h) rfl rfl hn rfl (q_assign rfl rfl) ?_
  refine d1_of_d2 ?_
  refine d2_done (by kernel_rfl) ?_
  refine aend_then ?_
  refine awp_seq ?_
  refine awp_block ?_
  refine awp_seq ?_
  refine awp_region ?_
  refine sq rfl rfl hn rfl (q_fieldAddr rfl rfl Try.underlying35 rfl sz3) ?_
  refine sq rfl rfl hn rfl (q_load rfl rfl (id := 1) rfl Try.underlying3 rfl rfl sees0) ?_
  refine sq rfl rfl hn rfl (q_gtr rfl rfl rfl) ?_
  refine sq rfl rfl hn rfl (q_move rfl rfl) ?_
  refine stepG [] (guard_some rfl rfl rfl) rfl (nb hn rfl) (fun hc => trivial) (fun hc => q_fieldAddr rfl rfl Try.underlying35 rfl sz22) ?_
  refine stepG [(17, _)] (guard_some rfl rfl rfl) rfl (nb hn rfl) (fun hc => ⟨⟨_, rfl, hc⟩, trivial⟩) (fun hc => q_load rfl rfl (id := 1) rfl Try.underlying22 rfl rfl sees0) ?_
  refine stepG [(18, _)] (guard_some rfl rfl rfl) rfl (nb hn rfl) (fun hc => ⟨⟨_, rfl, hc⟩, trivial⟩) (fun hc => q_len rfl rfl Try.underlying22) ?_
  refine stepG [(19, _)] (guard_some rfl rfl rfl) rfl (nb hn rfl) (fun hc => ⟨⟨_, rfl, hc⟩, trivial⟩) (fun hc => q_gtr rfl rfl rfl) ?_
  refine sq rfl rfl hn rfl (q_or rfl rfl rfl (by simp_all)) ?_
  refine sq rfl rfl hn rfl (q_move rfl rfl) ?_
  refine stepG [] (guard_some rfl rfl rfl) rfl (nb hn rfl) (fun hc => trivial) (fun hc => q_fieldAddr rfl rfl Try.underlying35 rfl sz32) ?_
  refine stepG [(23, _)] (guard_some rfl rfl rfl) rfl (nb hn rfl) (fun hc => ⟨⟨_, rfl, hc⟩, trivial⟩) (fun hc => q_load rfl rfl (id := 1) rfl Try.underlying32 rfl rfl sees0) ?_
  refine stepG [(24, _)] (guard_some rfl rfl rfl) rfl (nb hn rfl) (fun hc => ⟨⟨_, rfl, hc⟩, trivial⟩) (fun hc => q_len rfl rfl Try.underlying32) ?_
  refine stepG [(25, _)] (guard_some rfl rfl rfl) rfl (nb hn rfl) (fun hc => ⟨⟨_, rfl, hc⟩, trivial⟩) (fun hc => q_gtr rfl rfl rfl) ?_
  refine sq rfl rfl hn rfl (q_or rfl rfl rfl (by simp_all)) ?_
  refine sq rfl rfl hn rfl (q_move rfl rfl) ?_
  refine stepG [] (guard_some rfl rfl rfl) rfl (nb hn rfl) (fun hc => trivial) (fun hc => q_fieldAddr rfl rfl Try.underlying35 rfl sz33) ?_
  refine stepG [(29, _)] (guard_some rfl rfl rfl) rfl (nb hn rfl) (fun hc => ⟨⟨_, rfl, hc⟩, trivial⟩) (fun hc => q_load rfl rfl (id := 1) rfl Try.underlying33 rfl rfl sees0) ?_
  refine stepG [(30, _)] (guard_some rfl rfl rfl) rfl (nb hn rfl) (fun hc => ⟨⟨_, rfl, hc⟩, trivial⟩) (fun hc => q_len rfl rfl Try.underlying33) ?_
  refine stepG [(31, _)] (guard_some rfl rfl rfl) rfl (nb hn rfl) (fun hc => ⟨⟨_, rfl, hc⟩, trivial⟩) (fun hc => q_gtr rfl rfl rfl) ?_
  refine sq rfl rfl hn rfl (q_or rfl rfl rfl (by simp_all)) ?_
  refine sq rfl rfl hn rfl (q_assign rfl rfl) ?_
  refine run_nil ?_
  refine aend_then ?_
  refine awp_cond rfl (fun hb0 => ?_) (fun hb0 => ?_)
  · skip
    refine awp_seq ?_
    refine awp_region ?_
    refine sq rfl rfl hn rfl (q_assign rfl rfl) ?_
    refine run_nil ?_
    refine aend_then ?_
    refine awp_ret ?_
    refine aend_block_ret ?_
    refine aend_then_ret ?_
    refine ret_eq (ret_1 (.inl rfl) hl rfl (.tmp rfl)) ?_
    simp only [List.length_map] at hb0; rw [show checkE r = 3 from by unfold checkE limB; rw [hb0]; rfl]
  · skip
    refine awp_seq ?_
    refine awp_region ?_
    refine sq rfl rfl hn rfl (q_fieldAddr rfl rfl Try.underlying35 rfl sz3) ?_
    refine sq rfl rfl hn rfl (q_load rfl rfl (id := 1) rfl Try.underlying3 rfl rfl sees0) ?_
    refine sq rfl rfl hn rfl (q_lss rfl rfl rfl) ?_
    refine sq rfl rfl hn rfl (q_move rfl rfl) ?_
    refine stepG [] (guard_some rfl rfl rfl) rfl (nb hn rfl) (fun hc => trivial) (fun hc => q_fieldAddr rfl rfl Try.underlying35 rfl sz22) ?_
    refine stepG [(39, _)] (guard_some rfl rfl rfl) rfl (nb hn rfl) (fun hc => ⟨⟨_, rfl, hc⟩, trivial⟩) (fun hc => q_load rfl rfl (id := 1) rfl Try.underlying22 rfl rfl sees0) ?_
    refine stepG [(40, _)] (guard_some rfl rfl rfl) rfl (nb hn rfl) (fun hc => ⟨⟨_, rfl, hc⟩, trivial⟩) (fun hc => q_len rfl rfl Try.underlying22) ?_
    refine stepG [(41, _)] (guard_some rfl rfl rfl) rfl (nb hn rfl) (fun hc => ⟨⟨_, rfl, hc⟩, trivial⟩) (fun hc => q_eql rfl rfl rfl) ?_
    refine sq rfl rfl hn rfl (q_or rfl rfl rfl (by simp_all)) ?_
    refine sq rfl rfl hn rfl (q_move rfl rfl) ?_
    refine stepG [] (guard_some rfl rfl rfl) rfl (nb hn rfl) (fun hc => trivial) (fun hc => q_fieldAddr rfl rfl Try.underlying35 rfl sz22) ?_
    refine stepG [(45, _)] (guard_some rfl rfl rfl) rfl (nb hn rfl) (fun hc => ⟨⟨_, rfl, hc⟩, trivial⟩) (fun hc => q_load rfl rfl (id := 1) rfl Try.underlying22 rfl rfl sees0) ?_
    refine stepG [] (guard_some rfl rfl rfl) rfl (nb hn rfl) (fun hc => trivial) (fun hc => q_move rfl rfl) ?_
    refine stepW (s_call [(46, _), (47, _)] (fun hc => all_int r.start (houseB r) 58 [regD r] [] (fun x _ => house_ok r x)) rfl (guard_some rfl rfl rfl) rfl (nb hn rfl) (fun hc => ⟨⟨_, rfl, hc⟩, ⟨_, rfl, hc⟩, trivial⟩) rfl rfl (.refl _)) fun _ => ?_
    refine stepG [(48, _)] (guard_some rfl rfl rfl) rfl (nb hn rfl) (fun hc => ⟨⟨_, rfl, hc⟩, trivial⟩) (fun hc => q_not rfl rfl) ?_
    refine sq rfl rfl hn rfl (q_or rfl rfl rfl (by simp_all)) ?_
    refine sq rfl rfl hn rfl (q_move rfl rfl) ?_
    refine stepG [] (guard_some rfl rfl rfl) rfl (nb hn rfl) (fun hc => trivial) (fun hc => q_fieldAddr rfl rfl Try.underlying35 rfl sz32) ?_
    refine stepG [(52, _)] (guard_some rfl rfl rfl) rfl (nb hn rfl) (fun hc => ⟨⟨_, rfl, hc⟩, trivial⟩) (fun hc => q_load rfl rfl (id := 1) rfl Try.underlying32 rfl rfl sees0) ?_
    refine stepG [] (guard_some rfl rfl rfl) rfl (nb hn rfl) (fun hc => trivial) (fun hc => q_move rfl rfl) ?_
    refine stepW (s_call [(53, _), (54, _)] (fun hc => all_ent r.entries (entryB r) 74 [regD r] [] (fun x _ => entry_ok r x)) rfl (guard_some rfl rfl rfl) rfl (nb hn rfl) (fun hc => ⟨⟨_, rfl, hc⟩, ⟨_, rfl, hc⟩, trivial⟩) rfl rfl (.refl _)) fun _ => ?_
    refine stepG [(55, _)] (guard_some rfl rfl rfl) rfl (nb hn rfl) (fun hc => ⟨⟨_, rfl, hc⟩, trivial⟩) (fun hc => q_not rfl rfl) ?_
    refine sq rfl rfl hn rfl (q_or rfl rfl rfl (by simp_all)) ?_
    refine sq rfl rfl hn rfl (q_move rfl rfl) ?_
    refine stepG [] (guard_some rfl rfl rfl) rfl (nb hn rfl) (fun hc => trivial) (fun hc => q_fieldAddr rfl rfl Try.underlying35 rfl sz33) ?_
    refine stepG [(59, _)] (guard_some rfl rfl rfl) rfl (nb hn rfl) (fun hc => ⟨⟨_, rfl, hc⟩, trivial⟩) (fun hc => q_load rfl rfl (id := 1) rfl Try.underlying33 rfl rfl sees0) ?_
    refine stepG [] (guard_some rfl rfl rfl) rfl (nb hn rfl) (fun hc => trivial) (fun hc => q_move rfl rfl) ?_
    refine stepW (s_call [(60, _), (61, _)] (fun hc => all_sight r.sights (sightB r) 75 [regD r] [] (fun x _ => sight_ok r x)) rfl (guard_some rfl rfl rfl) rfl (nb hn rfl) (fun hc => ⟨⟨_, rfl, hc⟩, ⟨_, rfl, hc⟩, trivial⟩) rfl rfl (.refl _)) fun _ => ?_
    refine stepG [(62, _)] (guard_some rfl rfl rfl) rfl (nb hn rfl) (fun hc => ⟨⟨_, rfl, hc⟩, trivial⟩) (fun hc => q_not rfl rfl) ?_
    refine sq rfl rfl hn rfl (q_or rfl rfl rfl (by simp_all)) ?_
    refine sq rfl rfl hn rfl (q_assign rfl rfl) ?_
    refine run_nil ?_
    refine aend_then ?_
    refine awp_cond rfl (fun hb1 => ?_) (fun hb1 => ?_)
    · skip
      refine awp_seq ?_
      refine awp_region ?_
      refine sq rfl rfl hn rfl (q_assign rfl rfl) ?_
      refine run_nil ?_
      refine aend_then ?_
      refine awp_ret ?_
      refine aend_block_ret ?_
      refine aend_then_ret ?_
      refine ret_eq (ret_1 (.inl rfl) hl rfl (.tmp rfl)) ?_
      simp only [List.length_map] at hb0 hb1; rw [show checkE r = 1 from by unfold checkE limB argB; rw [hb0, hb1]; rfl]
    · skip
      refine awp_skip ?_
      refine aend_block ?_
      refine aend_then ?_
      refine awp_seq ?_
      refine awp_region ?_
      refine sq rfl rfl hn rfl (q_assign rfl rfl) ?_
      refine run_nil ?_
      refine aend_then ?_
      refine awp_ret ?_
      refine ret_eq (ret_1 (.inl rfl) hl rfl (.tmp rfl)) ?_
      simp only [List.length_map] at hb0 hb1; rw [show checkE r = 0 from by unfold checkE limB argB; rw [hb0, hb1]; rfl]
theorem Fault_ok (r : Reg) : PureAt Try.prog 51 [regD r] (.int .i64 (checkE r)) := by
  refine PureAt.of_awp' Try.func51 rfl (by kernel_rfl) rfl fun hlen Γ hn hl => ?_
  have hl1 := hlen.1 1 (r.start.map intE) (by simp); have hl2 := hlen.1 6 (r.entries.map entE) (by simp); have hl3 := hlen.1 3 (r.sights.map sightE) (by simp)
  simp only [List.length_map] at hl1 hl2 hl3
  refine awp_seq ?_
  refine awp_region ?_
  refine stepW (s_box 1 rfl rfl rfl (nb hn rfl) rfl rfl) fun b1 => ?_
  refine sq rfl rfl hn rfl (q_assign rfl rfl) ?_
  refine run_nil ?_
  refine aend_then ?_
  refine awp_seq ?_
  refine awp_seq ?_
  refine awp_region ?_
  refine sq rfl rfl hn rfl (q_fieldAddr rfl rfl Try.underlying26 rfl sz3) ?_
  refine sq rfl rfl hn rfl (q_load rfl rfl (id := 1) rfl Try.underlying3 rfl rfl sees0) ?_
  refine sq rfl rfl hn rfl (q_gtr rfl rfl rfl) ?_
  refine sq rfl rfl hn rfl (q_move rfl rfl) ?_
  refine stepG [] (guard_some rfl rfl rfl) rfl (nb hn rfl) (fun hc => trivial) (fun hc => q_fieldAddr rfl rfl Try.underlying26 rfl sz22) ?_
  refine stepG [(14, _)] (guard_some rfl rfl rfl) rfl (nb hn rfl) (fun hc => ⟨⟨_, rfl, hc⟩, trivial⟩) (fun hc => q_load rfl rfl (id := 1) rfl Try.underlying22 rfl rfl sees0) ?_
  refine stepG [(15, _)] (guard_some rfl rfl rfl) rfl (nb hn rfl) (fun hc => ⟨⟨_, rfl, hc⟩, trivial⟩) (fun hc => q_len rfl rfl Try.underlying22) ?_
  refine stepG [(16, _)] (guard_some rfl rfl rfl) rfl (nb hn rfl) (fun hc => ⟨⟨_, rfl, hc⟩, trivial⟩) (fun hc => q_gtr rfl rfl rfl) ?_
  refine sq rfl rfl hn rfl (q_or rfl rfl rfl (by simp_all)) ?_
  refine sq rfl rfl hn rfl (q_move rfl rfl) ?_
  refine stepG [] (guard_some rfl rfl rfl) rfl (nb hn rfl) (fun hc => trivial) (fun hc => q_fieldAddr rfl rfl Try.underlying26 rfl sz23) ?_
  refine stepG [(20, _)] (guard_some rfl rfl rfl) rfl (nb hn rfl) (fun hc => ⟨⟨_, rfl, hc⟩, trivial⟩) (fun hc => q_load rfl rfl (id := 1) rfl Try.underlying23 rfl rfl sees0) ?_
  refine stepG [(21, _)] (guard_some rfl rfl rfl) rfl (nb hn rfl) (fun hc => ⟨⟨_, rfl, hc⟩, trivial⟩) (fun hc => q_len rfl rfl Try.underlying23) ?_
  refine stepG [(22, _)] (guard_some rfl rfl rfl) rfl (nb hn rfl) (fun hc => ⟨⟨_, rfl, hc⟩, trivial⟩) (fun hc => q_gtr rfl rfl rfl) ?_
  refine sq rfl rfl hn rfl (q_or rfl rfl rfl (by simp_all)) ?_
  refine sq rfl rfl hn rfl (q_move rfl rfl) ?_
  refine stepG [] (guard_some rfl rfl rfl) rfl (nb hn rfl) (fun hc => trivial) (fun hc => q_fieldAddr rfl rfl Try.underlying26 rfl sz24) ?_
  refine stepG [(26, _)] (guard_some rfl rfl rfl) rfl (nb hn rfl) (fun hc => ⟨⟨_, rfl, hc⟩, trivial⟩) (fun hc => q_load rfl rfl (id := 1) rfl Try.underlying24 rfl rfl sees0) ?_
  refine stepG [(27, _)] (guard_some rfl rfl rfl) rfl (nb hn rfl) (fun hc => ⟨⟨_, rfl, hc⟩, trivial⟩) (fun hc => q_len rfl rfl Try.underlying24) ?_
  refine stepG [(28, _)] (guard_some rfl rfl rfl) rfl (nb hn rfl) (fun hc => ⟨⟨_, rfl, hc⟩, trivial⟩) (fun hc => q_gtr rfl rfl rfl) ?_
  refine sq rfl rfl hn rfl (q_or rfl rfl rfl (by simp_all)) ?_
  refine run_nil ?_
  refine aend_then ?_
  refine awp_cond rfl (fun hb0 => ?_) (fun hb0 => ?_)
  · skip
    have hlim : limB r = true := by simpa [limB] using hb0
    refine awp_seq ?_
    refine awp_region ?_
    refine sq rfl rfl hn rfl (q_assign rfl rfl) ?_
    refine run_nil ?_
    refine aend_then ?_
    refine awp_ret ?_
    refine aend_then_ret ?_
    refine ret_eq (ret_1 (.inl rfl) hl rfl (.tmp rfl)) ?_
    rw [checkE_3 hlim]
  · skip
    have hlim : limB r = false := by simpa [limB] using hb0
    refine awp_skip ?_
    refine aend_then ?_
    refine awp_seq ?_
    refine awp_seq ?_
    refine awp_region ?_
    refine sq rfl rfl hn rfl (q_fieldAddr rfl rfl Try.underlying26 rfl sz3) ?_
    refine sq rfl rfl hn rfl (q_load rfl rfl (id := 1) rfl Try.underlying3 rfl rfl sees0) ?_
    refine sq rfl rfl hn rfl (q_lss rfl rfl rfl) ?_
    refine sq rfl rfl hn rfl (q_move rfl rfl) ?_
    refine stepG [] (guard_some rfl rfl rfl) rfl (nb hn rfl) (fun hc => trivial) (fun hc => q_fieldAddr rfl rfl Try.underlying26 rfl sz22) ?_
    refine stepG [(35, _)] (guard_some rfl rfl rfl) rfl (nb hn rfl) (fun hc => ⟨⟨_, rfl, hc⟩, trivial⟩) (fun hc => q_load rfl rfl (id := 1) rfl Try.underlying22 rfl rfl sees0) ?_
    refine stepG [(36, _)] (guard_some rfl rfl rfl) rfl (nb hn rfl) (fun hc => ⟨⟨_, rfl, hc⟩, trivial⟩) (fun hc => q_len rfl rfl Try.underlying22) ?_
    refine stepG [(37, _)] (guard_some rfl rfl rfl) rfl (nb hn rfl) (fun hc => ⟨⟨_, rfl, hc⟩, trivial⟩) (fun hc => q_eql rfl rfl rfl) ?_
    refine sq rfl rfl hn rfl (q_or rfl rfl rfl (by simp_all)) ?_
    refine run_nil ?_
    refine aend_then ?_
    refine awp_cond rfl (fun hb1 => ?_) (fun hb1 => ?_)
    · skip
      refine awp_seq ?_
      refine awp_region ?_
      refine sq rfl rfl hn rfl (q_assign rfl rfl) ?_
      refine run_nil ?_
      refine aend_then ?_
      refine awp_ret ?_
      refine aend_then_ret ?_
      refine ret_eq (ret_1 (.inl rfl) hl rfl (.tmp rfl)) ?_
      rw [checkE_1 hlim (by simp [argB]; simp at hb1; rcases hb1 with h | h <;> simp [h])]
    · skip
      have hh : 1 ≤ r.houses ∧ r.houses ≤ 4 ∧ r.start ≠ [] := by simp [limB] at hlim hb1; exact ⟨by omega, by omega, by intro h; simp [h] at hb1⟩
      refine awp_skip ?_
      refine aend_then ?_
      refine awp_seq ?_
      refine d_start (W := fun b => b ≠ b1) fmo ?_
      refine d1q (i := 0) rfl (by kernel_rfl) (fun _ _ _ _ h => h) rfl rfl hn rfl (q_fieldAddr rfl rfl Try.underlying26 rfl sz3) ?_
      refine d1q (i := 1) rfl (by kernel_rfl) (fun _ _ _ _ h => h) rfl rfl hn rfl (q_load rfl rfl (id := 1) rfl Try.underlying3 rfl rfl (seesA (by simp))) ?_
      refine d1q (i := 2) rfl (by kernel_rfl) (fun _ _ _ _ h => h) rfl rfl hn rfl (q_sub rfl rfl rfl (i64w (by omega) rfl)) ?_
      refine d1q (i := 3) rfl (by kernel_rfl) (fun _ _ _ _ h => h) rfl rfl hn rfl (q_fieldAddr rfl rfl Try.underlying26 rfl sz22) ?_
      refine d1q (i := 4) rfl (by kernel_rfl) (fun _ _ _ _ h => h) rfl rfl hn rfl (q_load rfl rfl (id := 1) rfl Try.underlying22 rfl rfl (seesA (by simp))) ?_
      refine d1q (i := 5) rfl (by kernel_rfl) (fun _ _ _ _ h => h) rfl rfl hn rfl (q_len rfl rfl Try.underlying22) ?_
      refine d1q (i := 6) rfl (by kernel_rfl) (fun _ _ _ _ h => h) rfl rfl hn rfl (q_sub rfl rfl rfl (i64w (by simp only [List.length_map]; omega) rfl)) ?_
      refine d1q (i := 7) rfl (by kernel_rfl) (fun _ _ _ _ h => h) rfl rfl hn rfl (q_assign rfl rfl) ?_
      refine d1q (i := 8) rfl (by kernel_rfl) (fun _ _ _ _ h => h) rfl rfl hn rfl (q_assign rfl rfl) ?_
      refine d1_of_d2 ?_
      refine d2_done (by kernel_rfl) ?_
      refine aend_then ?_
      refine awp_seq ?_
      refine awp_seq ?_
      refine awp_region ?_
      refine sq rfl rfl hn rfl (q_assign rfl rfl) ?_
      refine run_nil ?_
      refine aend_then ?_
      refine awp_block ?_
      refine awp_loop_on (ι := { i : Nat // i ≤ (r.start).length ∧ ((r.start).take i).all (houseB r) = true }) (fun i => (5, true, .d (.int .i64 (i.1 : Int))) :: anys [47, 48, 49, 50, 51, 54, 55, 56, 57, 58, 59, 60, 61, 52, 53]) (fun i => []) (fun i => (r.start).length - i.1) ⟨0, by simp⟩ ⟨.inl rfl, holdT_anys _⟩ trivial ?_
      rintro ⟨i, hi, hall⟩
      dsimp only
      refine awp_seq ?_
      refine awp_seq ?_
      refine awp_region ?_
      refine sq rfl rfl hn rfl (q_move rfl rfl) ?_
      refine sq rfl rfl hn rfl (q_fieldAddr rfl rfl Try.underlying26 rfl sz22) ?_
      refine sq rfl rfl hn rfl (q_load rfl rfl (id := 1) rfl Try.underlying22 rfl rfl sees0) ?_
      refine sq rfl rfl hn rfl (q_len rfl rfl Try.underlying22) ?_
      refine sq rfl rfl hn rfl (q_lss rfl rfl rfl) ?_
      refine run_nil ?_
      refine aend_then ?_
      refine awp_cond rfl (fun hb2 => ?_) (fun hb2 => ?_)
      · try simp only [decide_eq_true_eq, decide_eq_false_iff_not, Bool.and_eq_true, Bool.or_eq_true, Bool.and_eq_false_iff, Bool.or_eq_false_iff, Bool.not_eq_true', Bool.not_eq_false', beq_iff_eq, bne_iff_ne, ne_eq, beq_eq_false_iff_ne, bne_eq_false_iff_eq, Int.not_lt, Int.not_le] at hb2
        have hlt : i < (r.start).length := by simpa using hb2
        obtain ⟨x, hx⟩ := ex_get hlt
        refine awp_skip ?_
        refine aend_then ?_
        refine awp_seq ?_
        refine awp_block ?_
        refine awp_seq ?_
        refine awp_region ?_
        refine sq rfl rfl hn rfl (q_fieldAddr rfl rfl Try.underlying26 rfl sz22) ?_
        refine sq rfl rfl hn rfl (q_load rfl rfl (id := 1) rfl Try.underlying22 rfl rfl sees0) ?_
        refine sq rfl rfl hn rfl (q_move rfl rfl) ?_
        refine sq rfl rfl hn rfl (q_index rfl rfl rfl Try.underlying22 sz3 rfl (mget hx)) ?_
        refine sq rfl rfl hn rfl (q_loadp rfl rfl Try.underlying3 rfl seesF0) ?_
        refine sq rfl rfl hn rfl (q_move rfl rfl) ?_
        refine stepW (s_call [] (fun _ => In_ok _ _ _) rfl (guard_none rfl) rfl (nb hn rfl) (fun _ => trivial) rfl rfl (.refl _)) fun _ => ?_
        refine sq rfl rfl hn rfl (q_not rfl rfl) ?_
        refine run_nil ?_
        refine aend_then ?_
        refine awp_cond rfl (fun hb3 => ?_) (fun hb3 => ?_)
        · skip
          refine awp_seq ?_
          refine awp_region ?_
          refine sq rfl rfl hn rfl (q_assign rfl rfl) ?_
          refine run_nil ?_
          refine aend_then ?_
          refine awp_ret ?_
          refine aend_block_ret ?_
          refine aend_then_ret ?_
          refine aend_then_ret ?_
          refine aend_block_ret ?_
          refine aend_then_ret ?_
          refine ret_eq (ret_1 (.inl rfl) hl rfl (.tmp rfl)) ?_
          rw [checkE_1 hlim (arg_start (i := i) hx (by rw [houseB_eq hh.1 hh.2.1]; exact notT hb3))]
        · skip
          refine awp_skip ?_
          refine aend_block ?_
          refine aend_then ?_
          refine awp_region ?_
          refine sq rfl rfl hn rfl (q_move rfl rfl) ?_
          refine sq rfl rfl hn rfl (q_add rfl rfl rfl (r := ((i + 1 : Nat) : Int)) (i64w (by omega) (by omega))) ?_
          refine sq rfl rfl hn rfl (q_assign rfl rfl) ?_
          refine run_nil ?_
          exact aend_round_on ⟨i + 1, by omega, take_all_succ hx hall (by rw [houseB_eq hh.1 hh.2.1]; simpa using hb3)⟩ ⟨.inl rfl, holdT_anys _⟩ trivial (by simp only; omega) (by repeat (first | exact kr _ | refine kc rfl ?_)) (by repeat (first | exact kr _ | refine kc rfl ?_))
      · try simp only [decide_eq_true_eq, decide_eq_false_iff_not, Bool.and_eq_true, Bool.or_eq_true, Bool.and_eq_false_iff, Bool.or_eq_false_iff, Bool.not_eq_true', Bool.not_eq_false', beq_iff_eq, bne_iff_ne, ne_eq, beq_eq_false_iff_ne, bne_eq_false_iff_eq, Int.not_lt, Int.not_le] at hb2
        have hS : r.start.all (houseB r) = true := full_all hb2 hi hall
        refine awp_exit ?_
        refine aend_then_exit ?_
        refine aend_then_exit ?_
        refine aend_block_exit ?_
        refine aend_then ?_
        refine awp_seq ?_
        refine awp_seq ?_
        refine awp_region ?_
        refine sq rfl rfl hn rfl (q_assign rfl rfl) ?_
        refine run_nil ?_
        refine aend_then ?_
        refine awp_block ?_
        refine awp_loop_on (ι := { i : Nat // i ≤ (r.entries).length ∧ ((r.entries).take i).all (entryB r) = true }) (fun i => (6, true, .d (.int .i64 (i.1 : Int))) :: anys [62, 63, 64, 65, 66, 69, 70, 71, 72, 73, 7, 74, 75, 76, 77, 78, 79, 80, 81, 82, 83, 84, 85, 86, 87, 88, 89, 90, 91, 92, 93, 94, 95, 96, 97, 98, 99, 100, 101, 102, 103, 104, 105, 106, 107, 108, 109, 110, 111, 112, 113, 114, 115, 116, 117, 118, 119, 120, 121, 67, 68]) (fun i => gones [7]) (fun i => (r.entries).length - i.1) ⟨0, by simp⟩ ⟨.inl rfl, holdT_anys _⟩ (holdR_gones _) ?_
        rintro ⟨i, hi, hall⟩
        dsimp only
        refine awp_seq ?_
        refine awp_seq ?_
        refine awp_region ?_
        refine sq rfl rfl hn rfl (q_move rfl rfl) ?_
        refine sq rfl rfl hn rfl (q_fieldAddr rfl rfl Try.underlying26 rfl sz23) ?_
        refine sq rfl rfl hn rfl (q_load rfl rfl (id := 1) rfl Try.underlying23 rfl rfl sees0) ?_
        refine sq rfl rfl hn rfl (q_len rfl rfl Try.underlying23) ?_
        refine sq rfl rfl hn rfl (q_lss rfl rfl rfl) ?_
        refine run_nil ?_
        refine aend_then ?_
        refine awp_cond rfl (fun hb4 => ?_) (fun hb4 => ?_)
        · try simp only [decide_eq_true_eq, decide_eq_false_iff_not, Bool.and_eq_true, Bool.or_eq_true, Bool.and_eq_false_iff, Bool.or_eq_false_iff, Bool.not_eq_true', Bool.not_eq_false', beq_iff_eq, bne_iff_ne, ne_eq, beq_eq_false_iff_ne, bne_eq_false_iff_eq, Int.not_lt, Int.not_le] at hb4
          have hlt : i < (r.entries).length := by simpa using hb4
          obtain ⟨x, hx⟩ := ex_get hlt
          refine awp_skip ?_
          refine aend_then ?_
          refine awp_seq ?_
          refine awp_block ?_
          refine awp_seq ?_
          refine awp_region ?_
          refine sq rfl rfl hn rfl (q_fieldAddr rfl rfl Try.underlying26 rfl sz23) ?_
          refine sq rfl rfl hn rfl (q_load rfl rfl (id := 1) rfl Try.underlying23 rfl rfl sees0) ?_
          refine sq rfl rfl hn rfl (q_move rfl rfl) ?_
          refine sq rfl rfl hn rfl (q_index rfl rfl rfl Try.underlying23 sz67 rfl (mget hx)) ?_
          refine sq rfl rfl hn rfl (q_loadpA rfl rfl Try.underlying67 rfl sz67 rfl rfl seesF0) ?_
          refine stepW (s_alloc 7 rfl rfl rfl (nb hn rfl) zr67 rfl rfl) fun b7 => ?_
          refine stepW (s_store rfl rfl rfl rfl rfl rfl (id := 7) rfl sz67 rfl (Nat.le_of_ble_eq_true rfl) rfl trivial) fun _ => ?_
          refine run_nil ?_
          refine aend_then ?_
          refine awp_seq ?_
          refine awp_region ?_
          refine sq rfl rfl hn rfl (q_fieldAddr rfl rfl Try.underlying67 rfl sz3) ?_
          refine sq rfl rfl hn rfl (q_load rfl rfl (id := 7) rfl Try.underlying3 rfl rfl sees0) ?_
          refine stepW (s_call [] (fun _ => In_ok _ _ _) rfl (guard_none rfl) rfl (nb hn rfl) (fun _ => trivial) rfl rfl (.refl _)) fun _ => ?_
          refine sq rfl rfl hn rfl (q_not rfl rfl) ?_
          refine sq rfl rfl hn rfl (q_move rfl rfl) ?_
          refine stepG [] (guard_some rfl rfl rfl) rfl (nb hn rfl) (fun hc => trivial) (fun hc => q_fieldAddr rfl rfl Try.underlying67 rfl sz3) ?_
          refine stepG [(79, _)] (guard_some rfl rfl rfl) rfl (nb hn rfl) (fun hc => ⟨⟨_, rfl, hc⟩, trivial⟩) (fun hc => q_load rfl rfl (id := 7) rfl Try.underlying3 rfl rfl sees0) ?_
          refine stepG [] (guard_some rfl rfl rfl) rfl (nb hn rfl) (fun hc => trivial) (fun hc => q_move rfl rfl) ?_
          refine stepW (s_call [(80, _), (81, _)] (fun hc => In_ok _ _ _) rfl (guard_some rfl rfl rfl) rfl (nb hn rfl) (fun hc => ⟨⟨_, rfl, hc⟩, ⟨_, rfl, hc⟩, trivial⟩) rfl rfl (.refl _)) fun _ => ?_
          refine stepG [(82, _)] (guard_some rfl rfl rfl) rfl (nb hn rfl) (fun hc => ⟨⟨_, rfl, hc⟩, trivial⟩) (fun hc => q_not rfl rfl) ?_
          refine sq rfl rfl hn rfl (q_or rfl rfl rfl (by simp_all)) ?_
          refine sq rfl rfl hn rfl (q_move rfl rfl) ?_
          refine stepG [] (guard_some rfl rfl rfl) rfl (nb hn rfl) (fun hc => trivial) (fun hc => q_fieldAddr rfl rfl Try.underlying67 rfl sz3) ?_
          refine stepG [(86, _)] (guard_some rfl rfl rfl) rfl (nb hn rfl) (fun hc => ⟨⟨_, rfl, hc⟩, trivial⟩) (fun hc => q_load rfl rfl (id := 7) rfl Try.underlying3 rfl rfl sees0) ?_
          refine stepG [] (guard_some rfl rfl rfl) rfl (nb hn rfl) (fun hc => trivial) (fun hc => q_move rfl rfl) ?_
          refine stepW (s_call [(87, _), (88, _)] (fun hc => In_ok _ _ _) rfl (guard_some rfl rfl rfl) rfl (nb hn rfl) (fun hc => ⟨⟨_, rfl, hc⟩, ⟨_, rfl, hc⟩, trivial⟩) rfl rfl (.refl _)) fun _ => ?_
          refine stepG [(89, _)] (guard_some rfl rfl rfl) rfl (nb hn rfl) (fun hc => ⟨⟨_, rfl, hc⟩, trivial⟩) (fun hc => q_not rfl rfl) ?_
          refine sq rfl rfl hn rfl (q_or rfl rfl rfl (by simp_all)) ?_
          refine sq rfl rfl hn rfl (q_move rfl rfl) ?_
          refine stepG [] (guard_some rfl rfl rfl) rfl (nb hn rfl) (fun hc => trivial) (fun hc => q_fieldAddr rfl rfl Try.underlying67 rfl sz3) ?_
          refine stepG [(93, _)] (guard_some rfl rfl rfl) rfl (nb hn rfl) (fun hc => ⟨⟨_, rfl, hc⟩, trivial⟩) (fun hc => q_load rfl rfl (id := 7) rfl Try.underlying3 rfl rfl sees0) ?_
          refine stepG [] (guard_some rfl rfl rfl) rfl (nb hn rfl) (fun hc => trivial) (fun hc => q_move rfl rfl) ?_
          refine stepW (s_call [(94, _), (95, _)] (fun hc => In_ok _ _ _) rfl (guard_some rfl rfl rfl) rfl (nb hn rfl) (fun hc => ⟨⟨_, rfl, hc⟩, ⟨_, rfl, hc⟩, trivial⟩) rfl rfl (.refl _)) fun _ => ?_
          refine stepG [(96, _)] (guard_some rfl rfl rfl) rfl (nb hn rfl) (fun hc => ⟨⟨_, rfl, hc⟩, trivial⟩) (fun hc => q_not rfl rfl) ?_
          refine sq rfl rfl hn rfl (q_or rfl rfl rfl (by simp_all)) ?_
          refine sq rfl rfl hn rfl (q_move rfl rfl) ?_
          refine stepG [] (guard_some rfl rfl rfl) rfl (nb hn rfl) (fun hc => trivial) (fun hc => q_fieldAddr rfl rfl Try.underlying67 rfl sz3) ?_
          refine stepG [(100, _)] (guard_some rfl rfl rfl) rfl (nb hn rfl) (fun hc => ⟨⟨_, rfl, hc⟩, trivial⟩) (fun hc => q_load rfl rfl (id := 7) rfl Try.underlying3 rfl rfl sees0) ?_
          refine stepG [] (guard_some rfl rfl rfl) rfl (nb hn rfl) (fun hc => trivial) (fun hc => q_fieldAddr rfl rfl Try.underlying67 rfl sz3) ?_
          refine stepG [(102, _)] (guard_some rfl rfl rfl) rfl (nb hn rfl) (fun hc => ⟨⟨_, rfl, hc⟩, trivial⟩) (fun hc => q_load rfl rfl (id := 7) rfl Try.underlying3 rfl rfl sees0) ?_
          refine stepG [(101, _), (103, _)] (guard_some rfl rfl rfl) rfl (nb hn rfl) (fun hc => ⟨⟨_, rfl, hc⟩, ⟨_, rfl, hc⟩, trivial⟩) (fun hc => q_eql rfl rfl rfl) ?_
          refine sq rfl rfl hn rfl (q_or rfl rfl rfl (by simp_all)) ?_
          refine sq rfl rfl hn rfl (q_move rfl rfl) ?_
          refine stepG [] (guard_some rfl rfl rfl) rfl (nb hn rfl) (fun hc => trivial) (fun hc => q_fieldAddr rfl rfl Try.underlying67 rfl sz49) ?_
          refine stepG [(107, _)] (guard_some rfl rfl rfl) rfl (nb hn rfl) (fun hc => ⟨⟨_, rfl, hc⟩, trivial⟩) (fun hc => q_fieldAddr rfl rfl Try.underlying49 rfl sz3) ?_
          refine stepG [(108, _)] (guard_some rfl rfl rfl) rfl (nb hn rfl) (fun hc => ⟨⟨_, rfl, hc⟩, trivial⟩) (fun hc => q_load rfl rfl (id := 7) rfl Try.underlying3 rfl rfl sees0) ?_
          refine stepG [] (guard_some rfl rfl rfl) rfl (nb hn rfl) (fun hc => trivial) (fun hc => q_fieldAddr rfl rfl Try.underlying67 rfl sz49) ?_
          refine stepG [(110, _)] (guard_some rfl rfl rfl) rfl (nb hn rfl) (fun hc => ⟨⟨_, rfl, hc⟩, trivial⟩) (fun hc => q_fieldAddr rfl rfl Try.underlying49 rfl sz3) ?_
          refine stepG [(111, _)] (guard_some rfl rfl rfl) rfl (nb hn rfl) (fun hc => ⟨⟨_, rfl, hc⟩, trivial⟩) (fun hc => q_load rfl rfl (id := 7) rfl Try.underlying3 rfl rfl sees0) ?_
          refine stepW (s_call [(109, _), (112, _)] (fun hc => In_ok _ _ _) rfl (guard_some rfl rfl rfl) rfl (nb hn rfl) (fun hc => ⟨⟨_, rfl, hc⟩, ⟨_, rfl, hc⟩, trivial⟩) rfl rfl (.refl _)) fun _ => ?_
          refine stepG [(113, _)] (guard_some rfl rfl rfl) rfl (nb hn rfl) (fun hc => ⟨⟨_, rfl, hc⟩, trivial⟩) (fun hc => q_not rfl rfl) ?_
          refine sq rfl rfl hn rfl (q_or rfl rfl rfl (by simp_all)) ?_
          refine sq rfl rfl hn rfl (q_move rfl rfl) ?_
          refine stepG [] (guard_some rfl rfl rfl) rfl (nb hn rfl) (fun hc => trivial) (fun hc => q_fieldAddr rfl rfl Try.underlying67 rfl sz49) ?_
          refine stepG [(117, _)] (guard_some rfl rfl rfl) rfl (nb hn rfl) (fun hc => ⟨⟨_, rfl, hc⟩, trivial⟩) (fun hc => q_fieldAddr rfl rfl Try.underlying49 rfl sz3) ?_
          refine stepG [(118, _)] (guard_some rfl rfl rfl) rfl (nb hn rfl) (fun hc => ⟨⟨_, rfl, hc⟩, trivial⟩) (fun hc => q_load rfl rfl (id := 7) rfl Try.underlying3 rfl rfl sees0) ?_
          refine stepG [(119, _)] (guard_some rfl rfl rfl) rfl (nb hn rfl) (fun hc => ⟨⟨_, rfl, hc⟩, trivial⟩) (fun hc => q_gtr rfl rfl rfl) ?_
          refine sq rfl rfl hn rfl (q_or rfl rfl rfl (by simp_all)) ?_
          refine run_nil ?_
          refine aend_then ?_
          refine awp_cond rfl (fun hb5 => ?_) (fun hb5 => ?_)
          · skip
            refine awp_seq ?_
            refine awp_region ?_
            refine sq rfl rfl hn rfl (q_assign rfl rfl) ?_
            refine run_nil ?_
            refine aend_then ?_
            refine awp_ret ?_
            refine aend_block_ret ?_
            refine aend_then_ret ?_
            refine aend_then_ret ?_
            refine aend_block_ret ?_
            refine aend_then_ret ?_
            refine ret_eq (ret_1 (.inl rfl) hl rfl (.tmp rfl)) ?_
            rw [checkE_1 hlim (arg_ent (i := i) hx (entryB_not hh.1 hh.2.1 (by simp only [List.length_map] at hb5; exact hb5)))]
          · skip
            refine awp_skip ?_
            refine aend_block ?_
            refine aend_then ?_
            refine awp_region ?_
            refine sq rfl rfl hn rfl (q_move rfl rfl) ?_
            refine sq rfl rfl hn rfl (q_add rfl rfl rfl (r := ((i + 1 : Nat) : Int)) (i64w (by omega) (by omega))) ?_
            refine sq rfl rfl hn rfl (q_assign rfl rfl) ?_
            refine run_nil ?_
            exact aend_round_on ⟨i + 1, by omega, take_all_succ hx hall (entryB_of hh.1 hh.2.1 (by simp only [List.length_map] at hb5; exact hb5))⟩ ⟨.inl rfl, holdT_anys _⟩ (holdR_gones _) (by simp only; omega) (by repeat (first | exact kr _ | refine kc rfl ?_)) (by repeat (first | exact kr _ | refine kc rfl ?_))
        · try simp only [decide_eq_true_eq, decide_eq_false_iff_not, Bool.and_eq_true, Bool.or_eq_true, Bool.and_eq_false_iff, Bool.or_eq_false_iff, Bool.not_eq_true', Bool.not_eq_false', beq_iff_eq, bne_iff_ne, ne_eq, beq_eq_false_iff_ne, bne_eq_false_iff_eq, Int.not_lt, Int.not_le] at hb4
          have hE : r.entries.all (entryB r) = true := full_all hb4 hi hall
          refine awp_exit ?_
          refine aend_then_exit ?_
          refine aend_then_exit ?_
          refine aend_block_exit ?_
          refine aend_then ?_
          refine awp_seq ?_
          refine awp_seq ?_
          refine awp_region ?_
          refine sq rfl rfl hn rfl (q_assign rfl rfl) ?_
          refine run_nil ?_
          refine aend_then ?_
          refine awp_block ?_
          refine awp_loop_on (ι := { i : Nat // i ≤ (r.sights).length ∧ ((r.sights).take i).all (sightB r) = true }) (fun i => (8, true, .d (.int .i64 (i.1 : Int))) :: anys [122, 123, 124, 125, 126, 129, 130, 131, 132, 133, 9, 134, 135, 136, 137, 138, 139, 140, 141, 142, 143, 144, 145, 146, 147, 148, 149, 150, 151, 127, 128]) (fun i => gones [9]) (fun i => (r.sights).length - i.1) ⟨0, by simp⟩ ⟨.inl rfl, holdT_anys _⟩ (holdR_gones _) ?_
          rintro ⟨i, hi, hall⟩
          dsimp only
          refine awp_seq ?_
          refine awp_seq ?_
          refine awp_region ?_
          refine sq rfl rfl hn rfl (q_move rfl rfl) ?_
          refine sq rfl rfl hn rfl (q_fieldAddr rfl rfl Try.underlying26 rfl sz24) ?_
          refine sq rfl rfl hn rfl (q_load rfl rfl (id := 1) rfl Try.underlying24 rfl rfl sees0) ?_
          refine sq rfl rfl hn rfl (q_len rfl rfl Try.underlying24) ?_
          refine sq rfl rfl hn rfl (q_lss rfl rfl rfl) ?_
          refine run_nil ?_
          refine aend_then ?_
          refine awp_cond rfl (fun hb6 => ?_) (fun hb6 => ?_)
          · try simp only [decide_eq_true_eq, decide_eq_false_iff_not, Bool.and_eq_true, Bool.or_eq_true, Bool.and_eq_false_iff, Bool.or_eq_false_iff, Bool.not_eq_true', Bool.not_eq_false', beq_iff_eq, bne_iff_ne, ne_eq, beq_eq_false_iff_ne, bne_eq_false_iff_eq, Int.not_lt, Int.not_le] at hb6
            have hlt : i < (r.sights).length := by simpa using hb6
            obtain ⟨x, hx⟩ := ex_get hlt
            refine awp_skip ?_
            refine aend_then ?_
            refine awp_seq ?_
            refine awp_block ?_
            refine awp_seq ?_
            refine awp_region ?_
            refine sq rfl rfl hn rfl (q_fieldAddr rfl rfl Try.underlying26 rfl sz24) ?_
            refine sq rfl rfl hn rfl (q_load rfl rfl (id := 1) rfl Try.underlying24 rfl rfl sees0) ?_
            refine sq rfl rfl hn rfl (q_move rfl rfl) ?_
            refine sq rfl rfl hn rfl (q_index rfl rfl rfl Try.underlying24 sz59 rfl (mget hx)) ?_
            refine sq rfl rfl hn rfl (q_loadpA rfl rfl Try.underlying59 rfl sz59 rfl rfl seesF0) ?_
            refine stepW (s_alloc 9 rfl rfl rfl (nb hn rfl) zr59 rfl rfl) fun b9 => ?_
            refine stepW (s_store rfl rfl rfl rfl rfl rfl (id := 9) rfl sz59 rfl (Nat.le_of_ble_eq_true rfl) rfl trivial) fun _ => ?_
            refine run_nil ?_
            refine aend_then ?_
            refine awp_seq ?_
            refine awp_region ?_
            refine sq rfl rfl hn rfl (q_fieldAddr rfl rfl Try.underlying59 rfl sz3) ?_
            refine sq rfl rfl hn rfl (q_load rfl rfl (id := 9) rfl Try.underlying3 rfl rfl sees0) ?_
            refine sq rfl rfl hn rfl (q_move rfl rfl) ?_
            refine stepW (s_call [] (fun _ => In_ok _ _ _) rfl (guard_none rfl) rfl (nb hn rfl) (fun _ => trivial) rfl rfl (.refl _)) fun _ => ?_
            refine sq rfl rfl hn rfl (q_not rfl rfl) ?_
            refine sq rfl rfl hn rfl (q_move rfl rfl) ?_
            refine stepG [] (guard_some rfl rfl rfl) rfl (nb hn rfl) (fun hc => trivial) (fun hc => q_fieldAddr rfl rfl Try.underlying59 rfl sz3) ?_
            refine stepG [(140, _)] (guard_some rfl rfl rfl) rfl (nb hn rfl) (fun hc => ⟨⟨_, rfl, hc⟩, trivial⟩) (fun hc => q_load rfl rfl (id := 9) rfl Try.underlying3 rfl rfl sees0) ?_
            refine stepG [] (guard_some rfl rfl rfl) rfl (nb hn rfl) (fun hc => trivial) (fun hc => q_move rfl rfl) ?_
            refine stepW (s_call [(141, _), (142, _)] (fun hc => In_ok _ _ _) rfl (guard_some rfl rfl rfl) rfl (nb hn rfl) (fun hc => ⟨⟨_, rfl, hc⟩, ⟨_, rfl, hc⟩, trivial⟩) rfl rfl (.refl _)) fun _ => ?_
            refine stepG [(143, _)] (guard_some rfl rfl rfl) rfl (nb hn rfl) (fun hc => ⟨⟨_, rfl, hc⟩, trivial⟩) (fun hc => q_not rfl rfl) ?_
            refine sq rfl rfl hn rfl (q_or rfl rfl rfl (by simp_all)) ?_
            refine sq rfl rfl hn rfl (q_move rfl rfl) ?_
            refine stepG [] (guard_some rfl rfl rfl) rfl (nb hn rfl) (fun hc => trivial) (fun hc => q_fieldAddr rfl rfl Try.underlying59 rfl sz3) ?_
            refine stepG [(147, _)] (guard_some rfl rfl rfl) rfl (nb hn rfl) (fun hc => ⟨⟨_, rfl, hc⟩, trivial⟩) (fun hc => q_load rfl rfl (id := 9) rfl Try.underlying3 rfl rfl sees0) ?_
            refine stepW (s_call [(148, _)] (fun hc => In_ok _ _ _) rfl (guard_some rfl rfl rfl) rfl (nb hn rfl) (fun hc => ⟨⟨_, rfl, hc⟩, trivial⟩) rfl rfl (.refl _)) fun _ => ?_
            refine stepG [(149, _)] (guard_some rfl rfl rfl) rfl (nb hn rfl) (fun hc => ⟨⟨_, rfl, hc⟩, trivial⟩) (fun hc => q_not rfl rfl) ?_
            refine sq rfl rfl hn rfl (q_or rfl rfl rfl (by simp_all)) ?_
            refine run_nil ?_
            refine aend_then ?_
            refine awp_cond rfl (fun hb7 => ?_) (fun hb7 => ?_)
            · skip
              refine awp_seq ?_
              refine awp_region ?_
              refine sq rfl rfl hn rfl (q_assign rfl rfl) ?_
              refine run_nil ?_
              refine aend_then ?_
              refine awp_ret ?_
              refine aend_block_ret ?_
              refine aend_then_ret ?_
              refine aend_then_ret ?_
              refine aend_block_ret ?_
              refine aend_then_ret ?_
              refine ret_eq (ret_1 (.inl rfl) hl rfl (.tmp rfl)) ?_
              rw [checkE_1 hlim (arg_sight (i := i) hx (sightB_not hh.1 hh.2.1 (by simp only [List.length_map] at hb7; exact hb7)))]
            · skip
              refine awp_skip ?_
              refine aend_block ?_
              refine aend_then ?_
              refine awp_region ?_
              refine sq rfl rfl hn rfl (q_move rfl rfl) ?_
              refine sq rfl rfl hn rfl (q_add rfl rfl rfl (r := ((i + 1 : Nat) : Int)) (i64w (by omega) (by omega))) ?_
              refine sq rfl rfl hn rfl (q_assign rfl rfl) ?_
              refine run_nil ?_
              exact aend_round_on ⟨i + 1, by omega, take_all_succ hx hall (sightB_of hh.1 hh.2.1 (by simp only [List.length_map] at hb7; exact hb7))⟩ ⟨.inl rfl, holdT_anys _⟩ (holdR_gones _) (by simp only; omega) (by repeat (first | exact kr _ | refine kc rfl ?_)) (by repeat (first | exact kr _ | refine kc rfl ?_))
          · try simp only [decide_eq_true_eq, decide_eq_false_iff_not, Bool.and_eq_true, Bool.or_eq_true, Bool.and_eq_false_iff, Bool.or_eq_false_iff, Bool.not_eq_true', Bool.not_eq_false', beq_iff_eq, bne_iff_ne, ne_eq, beq_eq_false_iff_ne, bne_eq_false_iff_eq, Int.not_lt, Int.not_le] at hb6
            have hG : r.sights.all (sightB r) = true := full_all hb6 hi hall
            refine awp_exit ?_
            refine aend_then_exit ?_
            refine aend_then_exit ?_
            refine aend_block_exit ?_
            refine aend_then ?_
            refine awp_seq ?_
            refine awp_region ?_
            refine sq rfl rfl hn rfl (q_assign rfl rfl) ?_
            refine run_nil ?_
            refine aend_then ?_
            refine awp_ret ?_
            refine ret_eq (ret_1 (.inl rfl) hl rfl (.tmp rfl)) ?_
            rw [checkE_0 hlim hh.1 hh.2 hS hE hG]
theorem fault_ok (r : Reg) : PureAt Try.prog 19 [regD r] (.int .i64 (checkE r)) := by
  refine PureAt.of_awp Try.func19 rfl (by kernel_rfl) (Nat.le_of_ble_eq_true rfl) fun Γ hn hl => ?_
  refine awp_seq ?_
  refine awp_region ?_
  refine stepW (s_box 1 rfl rfl rfl (nb hn rfl) rfl rfl) fun b1 => ?_
  refine sq rfl rfl hn rfl (q_assign rfl rfl) ?_
  refine run_nil ?_
  refine aend_then ?_
  refine awp_seq ?_
  refine awp_region ?_
  refine sq rfl rfl hn rfl (q_loadAd rfl rfl (id := 1) rfl Try.underlying26 rfl sz26 rfl rfl sees0) ?_
  refine stepW (s_call [] (fun _ => Fault_ok _) rfl (guard_none rfl) rfl (nb hn rfl) (fun _ => trivial) rfl rfl (.refl _)) fun _ => ?_
  refine sq rfl rfl hn rfl (q_assign rfl rfl) ?_
  refine run_nil ?_
  refine aend_then ?_
  refine awp_ret ?_
  exact ret_1 (.inl rfl) hl rfl (.tmp rfl)
theorem begun_ok (n : Int) (l : List Int) : PureAt Try.prog 29 [.int .i64 n, ints l] (.bool (decide ((l.length : Int) ≤ 7) && (checkE ⟨n, l, [], []⟩ == 0))) := by
  refine PureAt.of_awp Try.func29 rfl (by kernel_rfl) (Nat.le_of_ble_eq_true rfl) fun Γ hn hl => ?_
  refine awp_seq ?_
  refine awp_region ?_
  refine sq rfl rfl hn rfl (q_assign rfl rfl) ?_
  refine run_nil ?_
  refine aend_then ?_
  refine awp_seq ?_
  refine awp_region ?_
  refine sq rfl rfl hn rfl (q_move rfl rfl) ?_
  refine sq rfl rfl hn rfl (q_len rfl rfl Try.underlying22) ?_
  refine sq rfl rfl hn rfl (q_leq rfl rfl rfl) ?_
  refine sq rfl rfl hn rfl (q_move rfl rfl) ?_
  refine stepG [] (guard_some rfl rfl rfl) rfl (nb hn rfl) (fun hc => trivial) (fun hc => q_move rfl rfl) ?_
  refine stepG [] (guard_some rfl rfl rfl) rfl (nb hn rfl) (fun hc => trivial) (fun hc => q_move rfl rfl) ?_
  refine stepG [(9, _), (10, _)] (guard_some rfl rfl rfl) rfl (nb hn rfl) (fun hc => ⟨⟨_, rfl, hc⟩, ⟨_, rfl, hc⟩, trivial⟩) (fun hc => q_buildd rfl bt26 rfl rfl rfl rfl rfl) ?_
  refine stepW (s_call [(11, _)] (fun hc => fault_ok ⟨n, l, [], []⟩) rfl (guard_some rfl rfl rfl) rfl (nb hn rfl) (fun hc => ⟨⟨_, rfl, hc⟩, trivial⟩) rfl rfl (by first | exact .refl _ | (repeat (first | exact .refl _ | exact .nil _ | refine .cons ?_ ?_ | refine .agg ?_ | refine .tup ?_)))) fun _ => ?_
  refine stepG [(12, _)] (guard_some rfl rfl rfl) rfl (nb hn rfl) (fun hc => ⟨⟨_, rfl, hc⟩, trivial⟩) (fun hc => q_eql rfl rfl rfl) ?_
  refine sq rfl rfl hn rfl (q_and rfl rfl rfl (by simp_all)) ?_
  refine sq rfl rfl hn rfl (q_assign rfl rfl) ?_
  refine run_nil ?_
  refine aend_then ?_
  refine awp_ret ?_
  refine ret_eq (ret_1 (.inl rfl) hl rfl (.tmp rfl)) ?_
  simp
end Go.Proofs.Ytnbmmopjkkofoaa
namespace Go.Proofs.Ytnbmmopjkkofoaa
open Go.RowKit
set_option maxRecDepth 20000
set_option linter.all false
@[reducible] def intT (n : Int) : TV := .d (.int .i64 n)
theorem bits_one (x : Nat) (hx : x < 18446744073709551616) : bits .and .u64 (x : Int) 1 = ((x % 2 : Nat) : Int) := by
  have := bits_and_u64_nat x 1 hx (by omega)
  rw [show ((1 : Nat) : Int) = 1 from rfl] at this
  rw [this, Nat.and_one_is_mod]
theorem has_bits {d i : Nat} (hd : d < 18446744073709551616) : bits .and .u64 ((d : Int) / 2 ^ ((i : Int)).toNat) 1 = ((d / 2 ^ i % 2 : Nat) : Int) := by
  have : (d : Int) / 2 ^ ((i : Int)).toNat = ((d / 2 ^ i : Nat) : Int) := by simp
  rw [this, bits_one _ (Nat.lt_of_le_of_lt (Nat.div_le_self _ _) hd)]
theorem has_eq {d i : Nat} : (((d / 2 ^ i % 2 : Nat) : Int) == 1) = d.testBit i := by
  rw [Nat.testBit_eq_decide_div_mod_eq]
  generalize d / 2 ^ i % 2 = x
  rw [Bool.eq_iff_iff, beq_iff_eq, decide_eq_true_eq]
  omega
structure Valid (r : Reg) : Prop where
  h1 : 1 ≤ r.houses
  h4 : r.houses ≤ 4
  s1 : 1 ≤ r.start.length
  s4 : r.start.length ≤ 4
  e6 : r.entries.length ≤ 6
  g4 : r.sights.length ≤ 4
  st : ∀ x ∈ r.start, 0 ≤ x ∧ x ≤ r.houses - 1
  en : ∀ e ∈ r.entries, 0 ≤ e.kind ∧ e.kind ≤ 2 ∧ 0 ≤ e.sheet ∧ e.sheet ≤ (r.start.length : Int) - 1 ∧ 0 ≤ e.frm ∧ e.frm ≤ r.houses - 1 ∧ 0 ≤ e.to ∧ e.to ≤ r.houses - 1 ∧ e.frm ≠ e.to ∧ 0 ≤ e.lo ∧ e.lo ≤ e.hi ∧ e.hi ≤ 9
  si : ∀ s ∈ r.sights, 0 ≤ s.sheet ∧ s.sheet ≤ (r.start.length : Int) - 1 ∧ 0 ≤ s.house ∧ s.house ≤ r.houses - 1 ∧ 0 ≤ s.day ∧ s.day ≤ 9
theorem valid_of {r : Reg} (h : checkE r = 0) : Valid r := by
  have hl : limB r = false := by cases hl : limB r <;> simp_all [checkE]
  have ha : argB r = false := by cases ha : argB r <;> simp_all [checkE]
  simp only [limB, argB, Bool.or_eq_false_iff, decide_eq_false_iff_not, Int.not_lt, beq_eq_false_iff_ne, ne_eq, Bool.not_eq_false', List.all_eq_true] at hl ha
  obtain ⟨⟨⟨l1, l2⟩, l3⟩, l4⟩ := hl
  obtain ⟨⟨⟨⟨a1, a2⟩, a3⟩, a4⟩, a5⟩ := ha
  have hr1 : 1 ≤ r.houses := by omega
  refine ⟨hr1, l1, by omega, by omega, by omega, by omega, fun x hx => ?_, fun e he => ?_, fun s hs => ?_⟩
  · have := a3 x hx
    rw [houseB_eq hr1 l1] at this
    simpa using this
  · have := a4 e he
    simp only [entryB, houseB_eq hr1 l1, sheetB, dayB, Bool.and_eq_true, decide_eq_true_eq, bne_iff_ne] at this
    omega
  · have := a5 s hs
    simp only [sightB, houseB_eq hr1 l1, sheetB, dayB, Bool.and_eq_true, decide_eq_true_eq] at this
    omega
theorem checkE_of {r : Reg} (v : Valid r) : checkE r = 0 := by
  refine checkE_0 ?_ v.h1 ⟨v.h4, fun e => by have := v.s1; simp [e] at this⟩ ?_ ?_ ?_
  · have := v.h4; have := v.s4; have := v.e6; have := v.g4
    simp [limB]
    omega
  · refine List.all_eq_true.2 fun x hx => ?_
    have := v.st x hx
    rw [houseB_eq v.h1 v.h4]
    simpa using this
  · refine List.all_eq_true.2 fun e he => ?_
    have := v.en e he
    simp only [entryB, houseB_eq v.h1 v.h4, sheetB, dayB, Bool.and_eq_true, decide_eq_true_eq, bne_iff_ne]
    omega
  · refine List.all_eq_true.2 fun s hs => ?_
    have := v.si s hs
    simp only [sightB, houseB_eq v.h1 v.h4, sheetB, dayB, Bool.and_eq_true, decide_eq_true_eq]
    omega
def bump (c : List Int) (h x : Int) : List Int := c.set h.toNat (c.getD h.toNat 0 + x)
def comeF (d : Nat) (s : Int) : Nat → List Ent5 → List Int → List Int
  | _, [], c => c
  | k, e :: es, c => comeF d s (k + 1) es (bif d.testBit k && (e.sheet == s) then bump (bump c e.frm (-1)) e.to 1 else c)
def come0 (x : Int) : List Int := bump [0, 0, 0, 0] x 1
def placeOf (r : Reg) (d : Nat) (s : Nat) : Int := idxOf (fun x => (1 : Int) == x) (comeF d s 0 r.entries (come0 (r.start.getD s 0)))
def placeN (r : Reg) (d : Nat) (n j : Nat) : Int := if j < n then placeOf r d j else r.start.getD j 0
def placesL (r : Reg) (d : Nat) (n : Nat) : List Int := (List.range 4).map (placeN r d n)
@[reducible] def intD (n : Int) : D := .int .i64 n
/-- The houses of all four sheets, as an array. -/
def placesA (r : Reg) (d : Nat) : List Int := placesL r d r.start.length
theorem bump_len (c : List Int) (h x : Int) : (bump c h x).length = c.length := by simp [bump]
theorem bump_bd {c : List Int} {h x : Int} {m : Int} (hc : ∀ y ∈ c, -m ≤ y ∧ y ≤ m) (h0 : 0 ≤ m) (hx : -1 ≤ x ∧ x ≤ 1) : ∀ y ∈ bump c h x, -(m + 1) ≤ y ∧ y ≤ m + 1 := by
  intro y hy
  rcases List.mem_or_eq_of_mem_set hy with hy | rfl
  · have := hc y hy; omega
  · by_cases hl : h.toNat < c.length
    · have := hc (c.getD h.toNat 0) (by rw [List.getD_eq_getElem?_getD, List.getElem?_eq_getElem hl]; exact List.getElem_mem hl)
      omega
    · rw [List.getD_eq_getElem?_getD, List.getElem?_eq_none (by omega)]
      simp
      omega
theorem at1 {α β : Type} {l : List α} {f : α → β} {i : Nat} {x : α} (h : l[i]? = some x) : (l.map f)[0 + i * 1]? = some (f x) := by simp [h]
theorem set1 {α β : Type} {l : List α} {f : α → β} {i : Nat} {x : α} : (l.map f).set (0 + i * 1) (f x) = (l.set i x).map f := by simp [List.map_set]
theorem getD_of {l : List Int} {i : Nat} {x : Int} (h : l[i]? = some x) : l.getD i 0 = x := by simp [List.getD_eq_getElem?_getD, h]
theorem drop_of {α : Type} {l : List α} {i : Nat} {x : α} (h : l[i]? = some x) : l.drop i = x :: l.drop (i + 1) := by
  obtain ⟨hlt, rfl⟩ := List.getElem?_eq_some_iff.1 h
  exact List.drop_eq_getElem_cons hlt
theorem placesL_get {r : Reg} {d n j : Nat} (h : j < 4) : (placesL r d n)[j]? = some (placeN r d n j) := by simp [placesL, h]
theorem placesL_set {r : Reg} {d n : Nat} (h : n < 4) : (placesL r d n).set n (placeOf r d n) = placesL r d (n + 1) := by
  apply List.ext_getElem?
  intro j
  simp only [placesL, List.getElem?_set, List.length_map, List.length_range, List.getElem?_map]
  by_cases e : n = j
  · subst e; simp [h, placeN]
  · rw [if_neg e]
    by_cases hj : j < 4
    · simp only [List.getElem?_range hj, Option.map_some, placeN]
      by_cases k : j < n
      · rw [if_pos k, if_pos (by omega)]
      · rw [if_neg k, if_neg (by omega)]
    · rw [List.getElem?_eq_none (by simpa using hj)]; rfl
theorem placesL_0 {r : Reg} {d : Nat} (h : r.start.length ≤ 4) : placesL r d 0 = r.start ++ List.replicate (4 - r.start.length) 0 := by
  apply List.ext_getElem?
  intro j
  simp only [placesL, List.getElem?_map]
  by_cases hj : j < 4
  · simp only [List.getElem?_range hj, Option.map_some, placeN, Nat.not_lt_zero, if_false, List.getElem?_append]
    by_cases k : j < r.start.length
    · simp [k, List.getD_eq_getElem?_getD]
    · rw [if_neg k, List.getElem?_replicate, if_pos (by omega), List.getD_eq_getElem?_getD, List.getElem?_eq_none (by omega)]
      rfl
  · rw [List.getElem?_eq_none (by simpa using hj), List.getElem?_eq_none (by simp; omega)]
    rfl
theorem placesL_cur {r : Reg} {d i : Nat} {x : Int} (h : r.start[i]? = some x) (hi : i < 4) : (placesL r d i)[i]? = some x := by
  rw [placesL_get hi]
  simp [placeN, List.getD_eq_getElem?_getD, h]
theorem copy0 {r : Reg} {d : Nat} {cs : List TV} (h : r.start.length ≤ 4) (hc : cs = List.replicate 4 (intT 0)) : (((r.start.map intE).take 4).flatten.map TV.d) ++ cs.drop (Nat.min (r.start.map intE).length 4) = (placesL r d 0).map intT := by
  subst hc
  rw [placesL_0 h, List.take_of_length_le (by simpa using h), List.length_map, show Nat.min r.start.length 4 = r.start.length from Nat.min_eq_left h, List.map_append, List.map_replicate, List.drop_replicate]
  congr 1
  generalize r.start = l
  induction l with
  | nil => rfl
  | cons x l ih => simp [ih]
theorem zero4 {k : Nat} (h : k < 4) : ([intT 0, intT 0, intT 0, intT 0] : List TV)[0 + k * 1]? = some (intT 0) := by
  rcases k with _ | _ | _ | _ | k <;> first | rfl | omega
theorem set_come0 {x : Int} (h : x.toNat < 4) : ([intT 0, intT 0, intT 0, intT 0] : List TV).set (0 + x.toNat * 1) (intT (0 + 1)) = (come0 x).map intT := by
  unfold come0 bump
  generalize x.toNat = k at h
  rcases k with _ | _ | _ | _ | k <;> first | rfl | omega
theorem come0_len {x : Int} : (come0 x).length = 4 := by simp [come0, bump_len]
theorem come0_bd {x : Int} : ∀ y ∈ come0 x, -(1 : Int) ≤ y ∧ y ≤ 1 := by
  have := bump_bd (c := [0, 0, 0, 0]) (h := x) (x := 1) (m := 0) (by simp) (by omega) (by omega)
  intro y hy
  have := this y hy
  omega
theorem getD_some {l : List Int} {k : Nat} (h : k < l.length) : l[k]? = some (l.getD k 0) := by
  rw [List.getD_eq_getElem?_getD, List.getElem?_eq_getElem h]
  rfl
theorem getD_mem {l : List Int} {k : Nat} (h : k < l.length) : l.getD k 0 ∈ l := List.mem_of_getElem? (getD_some h)
theorem allD_int : ∀ (l : List Int), allD (l.map intT) = some (l.map intD)
  | [] => rfl
  | x :: l => by simp only [List.map_cons, allD, allD_int l]
theorem chunk_int : ∀ (l : List Int), chunk 1 l.length (l.map intD) = l.map intE
  | [] => rfl
  | x :: l => by simp only [List.length_cons, List.map_cons, chunk, List.take_succ_cons, List.take_zero, List.drop_succ_cons, List.drop_zero, chunk_int l]
theorem chunk_int4 {l : List Int} (h : l.length = 4) : chunk 1 4 (l.map intD) = l.map intE := h ▸ chunk_int l
theorem beq_int4 {l : List Int} (h : l.length = 4) : Nat.beq (l.map intD).length (4 * 1) = true := by simp [h]
def openF (d : Nat) (a b : Int) : Nat → List Ent5 → Int → Int
  | _, [], n => n
  | k, e :: es, n => openF d a b (k + 1) es (bif !(d.testBit k) then n else bif (e.kind == 1) && (e.frm == a) && (e.to == b) then n + 1 else bif (e.kind == 2) && (e.frm == b) && (e.to == a) then n - 1 else n)
def openN (r : Reg) (d : Nat) (a b : Int) : Int := openF d a b 0 r.entries 0
theorem sz103 : Sz Try.prog 103 4 := (by kernel_rfl : (Try.prog.info? 103).map (·.size) = some 4)
theorem zr3 : (Try.prog.info? 3).map (·.zero) = some (some (.int .i64 0)) := by kernel_rfl
theorem zr22 : (Try.prog.info? 22).map (·.zero) = some (some (.slice none 0 0)) := by kernel_rfl
theorem zr83 : (Try.prog.info? 83).map (·.zero) = some (some (.agg #[(.int .i64 0), (.int .i64 0), (.int .i64 0), (.int .i64 0)])) := by kernel_rfl
theorem zr95 : (Try.prog.info? 95).map (·.zero) = some (some (.agg #[(.int .i64 0), (.int .i64 0), (.int .i64 0), (.int .i64 0), (.int .i64 0), (.int .i64 0)])) := by kernel_rfl
theorem zr103 : (Try.prog.info? 103).map (·.zero) = some (some (.agg #[(.int .i64 0), (.int .i64 0), (.int .i64 0), (.int .i64 0)])) := by kernel_rfl
theorem elt22 : ElT Try.prog 22 3 1 8 := elt_of Try.underlying22 (z := (.int .i64 0)) (by kernel_rfl) rfl (by decide)
theorem elt77 : ElT Try.prog 77 22 1 24 := elt_of Try.underlying77 (z := (.slice none 0 0)) (by kernel_rfl) rfl (by decide)
theorem elt133 : ElT Try.prog 133 103 4 32 := elt_of Try.underlying133 (z := (.agg #[(.int .i64 0), (.int .i64 0), (.int .i64 0), (.int .i64 0)])) (by kernel_rfl) rfl (by decide)
theorem has_ok (d i : Nat) (hd : d < 18446744073709551616) (hi : i < 64) : PureAt Try.prog 85 [.int .u64 (d : Nat), .int .i64 (i : Nat)] (.bool (d.testBit i)) := by
  refine PureAt.of_awp Try.func85 rfl (by kernel_rfl) (Nat.le_of_ble_eq_true rfl) fun Γ hn hl => ?_
  refine awp_seq ?_
  refine awp_region ?_
  refine sq rfl rfl hn rfl (q_assign rfl rfl) ?_
  refine run_nil ?_
  refine aend_then ?_
  refine awp_seq ?_
  refine awp_region ?_
  refine sq rfl rfl hn rfl (q_move rfl rfl) ?_
  refine sq rfl rfl hn rfl (q_move rfl rfl) ?_
  refine sq rfl rfl hn rfl (q_shr rfl rfl rfl (by omega) (by simp [IntKind.bits]; omega)) ?_
  refine sq rfl rfl hn rfl (q_bitand rfl rfl rfl (has_bits hd)) ?_
  refine sq rfl rfl hn rfl (q_eql rfl rfl rfl) ?_
  refine sq rfl rfl hn rfl (q_assign rfl rfl) ?_
  refine run_nil ?_
  refine aend_then ?_
  refine awp_ret ?_
  refine ret_eq (ret_1 (.inl rfl) hl rfl (.tmp rfl)) ?_
  rw [has_eq]
theorem Index_ok (l : List Int) (n : Int) : PureAt Try.prog 86 [ints l, .int .i64 n] (.int .i64 (idxOf (fun x => n == x) l)) := by
  refine PureAt.of_awp' Try.func86 rfl (by kernel_rfl) rfl fun hlen Γ hn hl => ?_
  have hl5 := hlen.1; simp only [List.length_map] at hl5
  refine awp_seq ?_
  refine awp_region ?_
  refine sq rfl rfl hn rfl (q_assign rfl rfl) ?_
  refine run_nil ?_
  refine aend_then ?_
  refine awp_seq ?_
  refine awp_seq ?_
  refine awp_region ?_
  refine sq rfl rfl hn rfl (q_move rfl rfl) ?_
  refine sq rfl rfl hn rfl (q_len rfl rfl Try.underlying22) ?_
  refine sq rfl rfl hn rfl (q_move rfl rfl) ?_
  refine run_nil ?_
  refine aend_then ?_
  refine awp_block ?_
  refine awp_loop_on (ι := { i : Nat // i ≤ l.length ∧ (l.take i).all (fun x => !(n == x)) = true }) (fun i => (8, true, .d (.int .i64 (i.1 : Int))) :: anys [9, 10, 5, 11, 12, 13, 14, 15, 16, 18]) (fun i => []) (fun i => l.length - i.1) ⟨0, by simp⟩ ⟨.inl rfl, holdT_anys _⟩ trivial ?_
  rintro ⟨i, hi, hall⟩
  dsimp only
  refine awp_seq ?_
  refine awp_region ?_
  refine sq rfl rfl hn rfl (q_lss rfl rfl rfl) ?_
  refine run_nil ?_
  refine aend_then ?_
  refine awp_seq ?_
  refine awp_cond rfl (fun hb0 => ?_) (fun hb0 => ?_)
  · try simp only [decide_eq_true_eq, decide_eq_false_iff_not, Bool.and_eq_true, Bool.or_eq_true, Bool.and_eq_false_iff, Bool.or_eq_false_iff, Bool.not_eq_true', Bool.not_eq_false', beq_iff_eq, bne_iff_ne, ne_eq, beq_eq_false_iff_ne, bne_eq_false_iff_eq, Int.not_lt, Int.not_le] at hb0
    have hlt : i < l.length := by simpa using hb0
    obtain ⟨x, hx⟩ := ex_get hlt
    refine awp_skip ?_
    refine aend_then ?_
    refine awp_seq ?_
    refine awp_block ?_
    refine awp_seq ?_
    refine awp_region ?_
    refine sq rfl rfl hn rfl (q_move rfl rfl) ?_
    refine sq rfl rfl hn rfl (q_assign rfl rfl) ?_
    refine run_nil ?_
    refine aend_then ?_
    refine awp_seq ?_
    refine awp_region ?_
    refine sq rfl rfl hn rfl (q_move rfl rfl) ?_
    refine sq rfl rfl hn rfl (q_move rfl rfl) ?_
    refine sq rfl rfl hn rfl (q_move rfl rfl) ?_
    refine sq rfl rfl hn rfl (q_index rfl rfl rfl Try.underlying22 sz3 rfl (mget hx)) ?_
    refine sq rfl rfl hn rfl (q_loadp rfl rfl Try.underlying3 rfl seesF0) ?_
    refine sq rfl rfl hn rfl (q_eql rfl rfl rfl) ?_
    refine run_nil ?_
    refine aend_then ?_
    refine awp_cond rfl (fun hb1 => ?_) (fun hb1 => ?_)
    · skip
      refine awp_seq ?_
      refine awp_region ?_
      refine sq rfl rfl hn rfl (q_move rfl rfl) ?_
      refine sq rfl rfl hn rfl (q_assign rfl rfl) ?_
      refine run_nil ?_
      refine aend_then ?_
      refine awp_ret ?_
      refine aend_block_ret ?_
      refine aend_then_ret ?_
      refine aend_then_ret ?_
      refine aend_block_ret ?_
      refine aend_then_ret ?_
      refine ret_eq (ret_1 (.inl rfl) hl rfl (.tmp rfl)) ?_
      rw [idxOf_hit hx hall hb1]
    · skip
      refine awp_skip ?_
      refine aend_block ?_
      refine aend_then ?_
      refine awp_region ?_
      refine sq rfl rfl hn rfl (q_add rfl rfl rfl (r := ((i + 1 : Nat) : Int)) (i64w (by omega) (by omega))) ?_
      refine sq rfl rfl hn rfl (q_move rfl rfl) ?_
      refine run_nil ?_
      exact aend_round_on ⟨i + 1, by omega, take_all_succ hx hall (by rw [hb1]; rfl)⟩ ⟨.inl rfl, holdT_anys _⟩ trivial (by simp only; omega) (by repeat (first | exact kr _ | refine kc rfl ?_)) (by repeat (first | exact kr _ | refine kc rfl ?_))
  · try simp only [decide_eq_true_eq, decide_eq_false_iff_not, Bool.and_eq_true, Bool.or_eq_true, Bool.and_eq_false_iff, Bool.or_eq_false_iff, Bool.not_eq_true', Bool.not_eq_false', beq_iff_eq, bne_iff_ne, ne_eq, beq_eq_false_iff_ne, bne_eq_false_iff_eq, Int.not_lt, Int.not_le] at hb0
    refine awp_exit ?_
    refine aend_then_exit ?_
    refine aend_then_exit ?_
    refine aend_block_exit ?_
    refine aend_then ?_
    refine awp_seq ?_
    refine awp_region ?_
    refine sq rfl rfl hn rfl (q_assign rfl rfl) ?_
    refine run_nil ?_
    refine aend_then ?_
    refine awp_ret ?_
    refine ret_eq (ret_1 (.inl rfl) hl rfl (.tmp rfl)) ?_
    rw [idxOf_miss (full_all hb0 hi hall)]
theorem open_ok (r : Reg) (d : Nat) (a b : Int) (v : Valid r) (hd : d < 18446744073709551616) : PureAt Try.prog 65 [regD r, .int .u64 (d : Nat), .int .i64 a, .int .i64 b] (.int .i64 (openN r d a b)) := by
  refine PureAt.of_awp Try.func65 rfl (by kernel_rfl) (Nat.le_of_ble_eq_true rfl) fun Γ hn hl => ?_
  have he6 := v.e6
  refine awp_seq ?_
  refine awp_region ?_
  refine stepW (s_box 4 rfl rfl rfl (nb hn rfl) rfl rfl) fun b4 => ?_
  refine sq rfl rfl hn rfl (q_assign rfl rfl) ?_
  refine run_nil ?_
  refine aend_then ?_
  refine awp_seq ?_
  refine awp_seq ?_
  refine awp_region ?_
  refine sq rfl rfl hn rfl (q_fieldAddr rfl rfl Try.underlying35 rfl sz32) ?_
  refine sq rfl rfl hn rfl (q_load rfl rfl (id := 4) rfl Try.underlying32 rfl rfl sees0) ?_
  refine sq rfl rfl hn rfl (q_len rfl rfl Try.underlying32) ?_
  refine sq rfl rfl hn rfl (q_move rfl rfl) ?_
  refine run_nil ?_
  refine aend_then ?_
  refine awp_block ?_
  refine awp_loop_on (ι := { x : Nat × Int // x.1 ≤ r.entries.length ∧ -(x.1 : Int) ≤ x.2 ∧ x.2 ≤ x.1 ∧ openN r d a b = openF d a b x.1 (r.entries.drop x.1) x.2 }) (fun x => (14, true, .d (.int .i64 (x.1.1 : Int))) :: (8, true, .d (.int .i64 x.1.2)) :: anys [15, 16, 17, 18, 10, 9, 20, 21, 22, 23, 19, 25, 26, 27, 28, 29, 30, 31, 32, 33, 34, 35, 36, 37, 38, 39, 24, 40, 41, 43, 44, 45, 46, 47, 48, 49, 50, 51, 52, 53, 54, 55, 56, 57, 42, 58, 59, 60]) (fun x => gones [10]) (fun x => r.entries.length - x.1.1) ⟨(0, 0), by simp, by simp, by simp, by simp [openN]⟩ ⟨.inl rfl, .inl rfl, holdT_anys _⟩ (holdR_gones _) ?_
  rintro ⟨⟨i, n⟩, hi, hn1, hn2, hF⟩
  dsimp only
  dsimp only at hi hn1 hn2 hF
  refine awp_seq ?_
  refine awp_region ?_
  refine sq rfl rfl hn rfl (q_lss rfl rfl rfl) ?_
  refine run_nil ?_
  refine aend_then ?_
  refine awp_seq ?_
  refine awp_cond rfl (fun hb0 => ?_) (fun hb0 => ?_)
  · try simp only [decide_eq_true_eq, decide_eq_false_iff_not, Bool.and_eq_true, Bool.or_eq_true, Bool.and_eq_false_iff, Bool.or_eq_false_iff, Bool.not_eq_true', Bool.not_eq_false', beq_iff_eq, bne_iff_ne, ne_eq, beq_eq_false_iff_ne, bne_eq_false_iff_eq, Int.not_lt, Int.not_le] at hb0
    have hlt : i < r.entries.length := by simpa using hb0
    obtain ⟨e, he⟩ := ex_get hlt
    rw [drop_of he] at hF; simp only [openF] at hF
    refine awp_skip ?_
    refine aend_then ?_
    refine awp_seq ?_
    refine awp_block ?_
    refine awp_seq ?_
    refine awp_region ?_
    refine sq rfl rfl hn rfl (q_move rfl rfl) ?_
    refine sq rfl rfl hn rfl (q_index rfl rfl rfl Try.underlying32 sz95 rfl (mget he)) ?_
    refine sq rfl rfl hn rfl (q_loadpA rfl rfl Try.underlying95 rfl sz95 rfl rfl seesF0) ?_
    refine stepW (s_alloc 10 rfl rfl rfl (nb hn rfl) zr95 rfl rfl) fun b10 => ?_
    refine sq rfl rfl hn rfl (q_assign rfl rfl) ?_
    refine stepW (s_store rfl rfl rfl rfl rfl rfl (id := 10) rfl sz95 rfl (Nat.le_of_ble_eq_true rfl) rfl trivial) fun _ => ?_
    refine run_nil ?_
    refine aend_then ?_
    refine awp_block ?_
    refine awp_seq ?_
    refine awp_region ?_
    refine sq rfl rfl hn rfl (q_move rfl rfl) ?_
    refine sq rfl rfl hn rfl (q_move rfl rfl) ?_
    refine stepW (s_call [] (fun _ => has_ok d i hd (by omega)) rfl (guard_none rfl) rfl (nb hn rfl) (fun _ => trivial) rfl rfl (.refl _)) fun _ => ?_
    refine sq rfl rfl hn rfl (q_not rfl rfl) ?_
    refine sq rfl rfl hn rfl (q_assign rfl rfl) ?_
    refine run_nil ?_
    refine aend_then ?_
    refine awp_cond rfl (fun hb1 => ?_) (fun hb1 => ?_)
    · skip
      refine awp_skip ?_
      refine aend_block ?_
      refine aend_block ?_
      refine aend_then ?_
      refine awp_region ?_
      refine sq rfl rfl hn rfl (q_add rfl rfl rfl (r := ((i + 1 : Nat) : Int)) (i64w (by omega) (by omega))) ?_
      refine sq rfl rfl hn rfl (q_move rfl rfl) ?_
      refine run_nil ?_
      exact aend_round_on ⟨(i + 1, n), by simp only; omega, by simp only; omega, by simp only; omega, by rw [hF, hb1]; rfl⟩ ⟨.inl rfl, .inl rfl, holdT_anys _⟩ (holdR_gones _) (by simp only; omega) (by repeat (first | exact kr _ | refine kc rfl ?_)) (by repeat (first | exact kr _ | refine kc rfl ?_))
    · skip
      refine awp_seq ?_
      refine awp_region ?_
      refine sq rfl rfl hn rfl (q_fieldAddr rfl rfl Try.underlying95 rfl sz3) ?_
      refine sq rfl rfl hn rfl (q_load rfl rfl (id := 10) rfl Try.underlying3 rfl rfl sees0) ?_
      refine sq rfl rfl hn rfl (q_eql rfl rfl rfl) ?_
      refine sq rfl rfl hn rfl (q_move rfl rfl) ?_
      refine stepG [] (guard_some rfl rfl rfl) rfl (nb hn rfl) (fun hc => trivial) (fun hc => q_fieldAddr rfl rfl Try.underlying95 rfl sz3) ?_
      refine stepG [(29, _)] (guard_some rfl rfl rfl) rfl (nb hn rfl) (fun hc => ⟨⟨_, rfl, hc⟩, trivial⟩) (fun hc => q_load rfl rfl (id := 10) rfl Try.underlying3 rfl rfl sees0) ?_
      refine stepG [] (guard_some rfl rfl rfl) rfl (nb hn rfl) (fun hc => trivial) (fun hc => q_move rfl rfl) ?_
      refine stepG [(30, _), (31, _)] (guard_some rfl rfl rfl) rfl (nb hn rfl) (fun hc => ⟨⟨_, rfl, hc⟩, ⟨_, rfl, hc⟩, trivial⟩) (fun hc => q_eql rfl rfl rfl) ?_
      refine sq rfl rfl hn rfl (q_and rfl rfl rfl (by intro hB; first | (rw [hB]; rfl) | (rw [hB, hc]; rfl) | simp_all)) ?_
      refine sq rfl rfl hn rfl (q_move rfl rfl) ?_
      refine stepG [] (guard_some rfl rfl rfl) rfl (nb hn rfl) (fun hc => trivial) (fun hc => q_fieldAddr rfl rfl Try.underlying95 rfl sz3) ?_
      refine stepG [(35, _)] (guard_some rfl rfl rfl) rfl (nb hn rfl) (fun hc => ⟨⟨_, rfl, hc⟩, trivial⟩) (fun hc => q_load rfl rfl (id := 10) rfl Try.underlying3 rfl rfl sees0) ?_
      refine stepG [] (guard_some rfl rfl rfl) rfl (nb hn rfl) (fun hc => trivial) (fun hc => q_move rfl rfl) ?_
      refine stepG [(36, _), (37, _)] (guard_some rfl rfl rfl) rfl (nb hn rfl) (fun hc => ⟨⟨_, rfl, hc⟩, ⟨_, rfl, hc⟩, trivial⟩) (fun hc => q_eql rfl rfl rfl) ?_
      refine sq rfl rfl hn rfl (q_and rfl rfl rfl (by intro hB; first | (rw [hB]; rfl) | (rw [hB, hc]; rfl) | simp_all)) ?_
      refine sq rfl rfl hn rfl (q_assign rfl rfl) ?_
      refine run_nil ?_
      refine aend_then ?_
      refine awp_cond rfl (fun hb2 => ?_) (fun hb2 => ?_)
      · skip
        refine awp_region ?_
        refine sq rfl rfl hn rfl (q_move rfl rfl) ?_
        refine sq rfl rfl hn rfl (q_add rfl rfl rfl (i64w (by omega) rfl)) ?_
        refine sq rfl rfl hn rfl (q_assign rfl rfl) ?_
        refine run_nil ?_
        refine aend_block ?_
        refine aend_block ?_
        refine aend_then ?_
        refine awp_region ?_
        refine sq rfl rfl hn rfl (q_add rfl rfl rfl (r := ((i + 1 : Nat) : Int)) (i64w (by omega) (by omega))) ?_
        refine sq rfl rfl hn rfl (q_move rfl rfl) ?_
        refine run_nil ?_
        exact aend_round_on ⟨(i + 1, n + 1), by simp only; omega, by simp only; omega, by simp only; omega, by rw [hF, hb1, hb2]; rfl⟩ ⟨.inl rfl, .inl rfl, holdT_anys _⟩ (holdR_gones _) (by simp only; omega) (by repeat (first | exact kr _ | refine kc rfl ?_)) (by repeat (first | exact kr _ | refine kc rfl ?_))
      · skip
        refine awp_seq ?_
        refine awp_region ?_
        refine sq rfl rfl hn rfl (q_fieldAddr rfl rfl Try.underlying95 rfl sz3) ?_
        refine sq rfl rfl hn rfl (q_load rfl rfl (id := 10) rfl Try.underlying3 rfl rfl sees0) ?_
        refine sq rfl rfl hn rfl (q_eql rfl rfl rfl) ?_
        refine sq rfl rfl hn rfl (q_move rfl rfl) ?_
        refine stepG [] (guard_some rfl rfl rfl) rfl (nb hn rfl) (fun hc => trivial) (fun hc => q_fieldAddr rfl rfl Try.underlying95 rfl sz3) ?_
        refine stepG [(47, _)] (guard_some rfl rfl rfl) rfl (nb hn rfl) (fun hc => ⟨⟨_, rfl, hc⟩, trivial⟩) (fun hc => q_load rfl rfl (id := 10) rfl Try.underlying3 rfl rfl sees0) ?_
        refine stepG [] (guard_some rfl rfl rfl) rfl (nb hn rfl) (fun hc => trivial) (fun hc => q_move rfl rfl) ?_
        refine stepG [(48, _), (49, _)] (guard_some rfl rfl rfl) rfl (nb hn rfl) (fun hc => ⟨⟨_, rfl, hc⟩, ⟨_, rfl, hc⟩, trivial⟩) (fun hc => q_eql rfl rfl rfl) ?_
        refine sq rfl rfl hn rfl (q_and rfl rfl rfl (by intro hB; first | (rw [hB]; rfl) | (rw [hB, hc]; rfl) | simp_all)) ?_
        refine sq rfl rfl hn rfl (q_move rfl rfl) ?_
        refine stepG [] (guard_some rfl rfl rfl) rfl (nb hn rfl) (fun hc => trivial) (fun hc => q_fieldAddr rfl rfl Try.underlying95 rfl sz3) ?_
        refine stepG [(53, _)] (guard_some rfl rfl rfl) rfl (nb hn rfl) (fun hc => ⟨⟨_, rfl, hc⟩, trivial⟩) (fun hc => q_load rfl rfl (id := 10) rfl Try.underlying3 rfl rfl sees0) ?_
        refine stepG [] (guard_some rfl rfl rfl) rfl (nb hn rfl) (fun hc => trivial) (fun hc => q_move rfl rfl) ?_
        refine stepG [(54, _), (55, _)] (guard_some rfl rfl rfl) rfl (nb hn rfl) (fun hc => ⟨⟨_, rfl, hc⟩, ⟨_, rfl, hc⟩, trivial⟩) (fun hc => q_eql rfl rfl rfl) ?_
        refine sq rfl rfl hn rfl (q_and rfl rfl rfl (by intro hB; first | (rw [hB]; rfl) | (rw [hB, hc]; rfl) | simp_all)) ?_
        refine sq rfl rfl hn rfl (q_assign rfl rfl) ?_
        refine run_nil ?_
        refine aend_then ?_
        refine awp_cond rfl (fun hb3 => ?_) (fun hb3 => ?_)
        · skip
          refine awp_region ?_
          refine sq rfl rfl hn rfl (q_move rfl rfl) ?_
          refine sq rfl rfl hn rfl (q_sub rfl rfl rfl (i64w (by omega) rfl)) ?_
          refine sq rfl rfl hn rfl (q_assign rfl rfl) ?_
          refine run_nil ?_
          refine aend_block ?_
          refine aend_block ?_
          refine aend_then ?_
          refine awp_region ?_
          refine sq rfl rfl hn rfl (q_add rfl rfl rfl (r := ((i + 1 : Nat) : Int)) (i64w (by omega) (by omega))) ?_
          refine sq rfl rfl hn rfl (q_move rfl rfl) ?_
          refine run_nil ?_
          exact aend_round_on ⟨(i + 1, n - 1), by simp only; omega, by simp only; omega, by simp only; omega, by rw [hF, hb1, hb2, hb3]; rfl⟩ ⟨.inl rfl, .inl rfl, holdT_anys _⟩ (holdR_gones _) (by simp only; omega) (by repeat (first | exact kr _ | refine kc rfl ?_)) (by repeat (first | exact kr _ | refine kc rfl ?_))
        · skip
          refine awp_skip ?_
          refine aend_block ?_
          refine aend_block ?_
          refine aend_then ?_
          refine awp_region ?_
          refine sq rfl rfl hn rfl (q_add rfl rfl rfl (r := ((i + 1 : Nat) : Int)) (i64w (by omega) (by omega))) ?_
          refine sq rfl rfl hn rfl (q_move rfl rfl) ?_
          refine run_nil ?_
          exact aend_round_on ⟨(i + 1, n), by simp only; omega, by simp only; omega, by simp only; omega, by rw [hF, hb1, hb2, hb3]; rfl⟩ ⟨.inl rfl, .inl rfl, holdT_anys _⟩ (holdR_gones _) (by simp only; omega) (by repeat (first | exact kr _ | refine kc rfl ?_)) (by repeat (first | exact kr _ | refine kc rfl ?_))
  · try simp only [decide_eq_true_eq, decide_eq_false_iff_not, Bool.and_eq_true, Bool.or_eq_true, Bool.and_eq_false_iff, Bool.or_eq_false_iff, Bool.not_eq_true', Bool.not_eq_false', beq_iff_eq, bne_iff_ne, ne_eq, beq_eq_false_iff_ne, bne_eq_false_iff_eq, Int.not_lt, Int.not_le] at hb0
    refine awp_exit ?_
    refine aend_then_exit ?_
    refine aend_then_exit ?_
    refine aend_block_exit ?_
    refine aend_then ?_
    refine awp_seq ?_
    refine awp_region ?_
    refine sq rfl rfl hn rfl (q_move rfl rfl) ?_
    refine sq rfl rfl hn rfl (q_assign rfl rfl) ?_
    refine run_nil ?_
    refine aend_then ?_
    refine awp_ret ?_
    refine ret_eq (ret_1 (.inl rfl) hl rfl (.tmp rfl)) ?_
    have e : i = r.entries.length := by simp only [List.length_map] at hb0; omega
    subst e; rw [List.drop_length] at hF; rw [hF]; rfl
theorem places_ok (r : Reg) (d : Nat) (v : Valid r) (hd : d < 18446744073709551616) : PureAt Try.prog 55 [regD r, .int .u64 (d : Nat)] (.agg ((placesA r d).map intD)) := by
  refine PureAt.of_awp Try.func55 rfl (by kernel_rfl) (Nat.le_of_ble_eq_true rfl) fun Γ hn hl => ?_
  have he6 := v.e6; have hs4 := v.s4; have hh4 := v.h4
  refine awp_seq ?_
  refine awp_region ?_
  refine stepW (s_box 2 rfl rfl rfl (nb hn rfl) rfl rfl) fun b2 => ?_
  refine stepW (s_alloc 4 rfl rfl rfl (nb hn rfl) zr103 rfl rfl) fun b4 => ?_
  refine run_nil ?_
  refine aend_then ?_
  refine awp_seq ?_
  refine d_start (W := fun b => b ≠ b2) fmo ?_
  refine d1q (i := 0) rfl (by kernel_rfl) (fun _ _ _ _ h => h) rfl rfl hn rfl (q_sliceA rfl rfl Try.underlying103 sz3) ?_
  refine d1q (i := 1) rfl (by kernel_rfl) (fun _ _ _ _ h => h) rfl rfl hn rfl (q_fieldAddr rfl rfl Try.underlying35 rfl sz22) ?_
  refine d1q (i := 2) rfl (by kernel_rfl) (fun _ _ _ _ h => h) rfl rfl hn rfl (q_load rfl rfl (id := 2) rfl Try.underlying22 rfl rfl (seesA (by simp))) ?_
  refine d1_of_d2 ?_
  refine g_ne_d2 (i := 4) (j := 2) rfl rfl rfl (fun hne4_2 => ?_)
  refine d2_one (i := 3) (by kernel_rfl) rfl (s_copy rfl rfl rfl rfl (id := 4) rfl Try.underlying22 sz3 (Nat.le_of_ble_eq_true rfl) (copy0 (d := d) hs4 rfl) (fun e => hne4_2 _ rfl (congrArg some e.symm)) rfl (nb hn rfl)) fun _ => ?_
  refine d2_of_d1 ?_
  refine d1_of_d2 ?_
  refine d2_done (by kernel_rfl) ?_
  refine aend_then ?_
  refine awp_seq ?_
  refine awp_seq ?_
  refine awp_region ?_
  refine sq rfl rfl hn rfl (q_fieldAddr rfl rfl Try.underlying35 rfl sz22) ?_
  refine sq rfl rfl hn rfl (q_load rfl rfl (id := 2) rfl Try.underlying22 rfl rfl sees0) ?_
  refine sq rfl rfl hn rfl (q_len rfl rfl Try.underlying22) ?_
  refine sq rfl rfl hn rfl (q_move rfl rfl) ?_
  refine run_nil ?_
  refine aend_then ?_
  refine awp_block ?_
  refine awp_loop_on (ι := { i : Nat // i ≤ r.start.length }) (fun x => (16, true, .d (.int .i64 (x.1 : Int))) :: anys [17, 18, 5, 6, 19, 20, 21, 22, 23, 24, 25, 26, 27, 28, 29, 30, 31, 32, 33, 8, 7, 34, 35, 36, 37, 38, 39, 40, 41, 42, 43, 44, 45, 46, 47, 48, 49, 50, 51, 52, 53, 54, 55, 56, 57, 58, 59, 60]) (fun x => (4, .box b4 103 ((placesL r d x.1).map intT)) :: gones [6, 8]) (fun x => r.start.length - x.1) ⟨0, by simp⟩ ⟨.inl rfl, holdT_anys _⟩ ⟨.inl rfl, holdR_gones _⟩ ?_
  rintro ⟨i, hi⟩
  dsimp only
  refine awp_seq ?_
  refine awp_region ?_
  refine sq rfl rfl hn rfl (q_lss rfl rfl rfl) ?_
  refine run_nil ?_
  refine aend_then ?_
  refine awp_seq ?_
  refine awp_cond rfl (fun hb0 => ?_) (fun hb0 => ?_)
  · try simp only [decide_eq_true_eq, decide_eq_false_iff_not, Bool.and_eq_true, Bool.or_eq_true, Bool.and_eq_false_iff, Bool.or_eq_false_iff, Bool.not_eq_true', Bool.not_eq_false', beq_iff_eq, bne_iff_ne, ne_eq, beq_eq_false_iff_ne, bne_eq_false_iff_eq, Int.not_lt, Int.not_le] at hb0
    have hlt : i < r.start.length := by simpa using hb0
    obtain ⟨x0, hx0⟩ := ex_get hlt
    have hi4 : i < 4 := by omega
    have hx1 := v.st x0 (List.mem_of_getElem? hx0)
    refine awp_skip ?_
    refine aend_then ?_
    refine awp_seq ?_
    refine awp_block ?_
    refine awp_seq ?_
    refine awp_region ?_
    refine sq rfl rfl hn rfl (q_move rfl rfl) ?_
    refine sq rfl rfl hn rfl (q_assign rfl rfl) ?_
    refine run_nil ?_
    refine aend_then ?_
    refine awp_seq ?_
    refine awp_region ?_
    refine stepW (s_alloc 6 rfl rfl rfl (nb hn rfl) zr83 rfl rfl) fun b6 => ?_
    refine run_nil ?_
    refine aend_then ?_
    refine awp_seq ?_
    refine awp_region ?_
    refine sq rfl rfl hn rfl (q_move rfl rfl) ?_
    refine sq rfl rfl hn rfl (q_indexA rfl rfl rfl Try.underlying103 sz3 rfl (by omega)) ?_
    refine sq rfl rfl hn rfl (q_load rfl rfl (id := 4) rfl Try.underlying3 rfl (at1 (placesL_cur hx0 hi4)) sees0) ?_
    refine sq rfl rfl hn rfl (q_indexA (i := x0.toNat) rfl rfl rfl Try.underlying83 sz3 (by omega) (by omega)) ?_
    refine sq rfl rfl hn rfl (q_load rfl rfl (id := 6) rfl Try.underlying3 rfl (zero4 (by omega)) sees0) ?_
    refine sq rfl rfl hn rfl (q_add rfl rfl rfl (i64w (by omega) rfl)) ?_
    refine sq rfl rfl hn rfl (q_indexA (i := x0.toNat) rfl rfl rfl Try.underlying83 sz3 (by omega) (by omega)) ?_
    refine stepW (s_store1 rfl rfl rfl rfl rfl rfl (id := 6) rfl sz3 (by simp [Value.cells]; omega) (set_come0 (by omega)) trivial) fun _ => ?_
    refine run_nil ?_
    refine aend_then ?_
    refine awp_seq ?_
    refine awp_seq ?_
    refine awp_region ?_
    refine sq rfl rfl hn rfl (q_fieldAddr rfl rfl Try.underlying35 rfl sz32) ?_
    refine sq rfl rfl hn rfl (q_load rfl rfl (id := 2) rfl Try.underlying32 rfl rfl sees0) ?_
    refine sq rfl rfl hn rfl (q_len rfl rfl Try.underlying32) ?_
    refine sq rfl rfl hn rfl (q_move rfl rfl) ?_
    refine run_nil ?_
    refine aend_then ?_
    refine awp_block ?_
    refine awp_loop_on (ι := { y : Nat × List Int // y.1 ≤ r.entries.length ∧ y.2.length = 4 ∧ (∀ z ∈ y.2, -((y.1 : Int) * 2 + 1) ≤ z ∧ z ≤ (y.1 : Int) * 2 + 1) ∧ comeF d i 0 r.entries (come0 x0) = comeF d i y.1 (r.entries.drop y.1) y.2 }) (fun y => (29, true, .d (.int .i64 (y.1.1 : Int))) :: anys [30, 31, 32, 33, 8, 7, 34, 35, 36, 37, 38, 39, 40, 41, 42, 43, 44, 45, 46, 47, 48, 49, 50, 51, 52, 53, 54, 55]) (fun y => (6, .box b6 83 (y.1.2.map intT)) :: gones [8]) (fun y => r.entries.length - y.1.1) ⟨(0, come0 x0), by simp, come0_len, by simpa using come0_bd, by simp⟩ ⟨.inl rfl, holdT_anys _⟩ ⟨.inl rfl, holdR_gones _⟩ ?_
    rintro ⟨⟨k, c⟩, hk, hc4, hbd, hF⟩
    dsimp only
    dsimp only at hk hc4 hbd hF
    refine awp_seq ?_
    refine awp_region ?_
    refine sq rfl rfl hn rfl (q_lss rfl rfl rfl) ?_
    refine run_nil ?_
    refine aend_then ?_
    refine awp_seq ?_
    refine awp_cond rfl (fun hb1 => ?_) (fun hb1 => ?_)
    · try simp only [decide_eq_true_eq, decide_eq_false_iff_not, Bool.and_eq_true, Bool.or_eq_true, Bool.and_eq_false_iff, Bool.or_eq_false_iff, Bool.not_eq_true', Bool.not_eq_false', beq_iff_eq, bne_iff_ne, ne_eq, beq_eq_false_iff_ne, bne_eq_false_iff_eq, Int.not_lt, Int.not_le] at hb1
      have hlt2 : k < r.entries.length := by simpa using hb1
      obtain ⟨e, he⟩ := ex_get hlt2
      have hen := v.en e (List.mem_of_getElem? he)
      rw [drop_of he] at hF; simp only [comeF] at hF
      have q1 := hbd _ (getD_mem (l := c) (k := e.frm.toNat) (by omega))
      have hbd1 := bump_bd (h := e.frm) (x := -1) hbd (by omega) (by omega)
      have hl1 : (bump c e.frm (-1)).length = 4 := by rw [bump_len, hc4]
      have q2 := hbd1 _ (getD_mem (l := bump c e.frm (-1)) (k := e.to.toNat) (by omega))
      have hbd2 := bump_bd (h := e.to) (x := 1) hbd1 (by omega) (by omega)
      have hl2 : (bump (bump c e.frm (-1)) e.to 1).length = 4 := by rw [bump_len, hl1]
      refine awp_skip ?_
      refine aend_then ?_
      refine awp_seq ?_
      refine awp_block ?_
      refine awp_seq ?_
      refine awp_region ?_
      refine sq rfl rfl hn rfl (q_move rfl rfl) ?_
      refine sq rfl rfl hn rfl (q_index rfl rfl rfl Try.underlying32 sz95 rfl (mget he)) ?_
      refine sq rfl rfl hn rfl (q_loadpA rfl rfl Try.underlying95 rfl sz95 rfl rfl seesF0) ?_
      refine stepW (s_alloc 8 rfl rfl rfl (nb hn rfl) zr95 rfl rfl) fun b8 => ?_
      refine sq rfl rfl hn rfl (q_assign rfl rfl) ?_
      refine stepW (s_store rfl rfl rfl rfl rfl rfl (id := 8) rfl sz95 rfl (Nat.le_of_ble_eq_true rfl) rfl trivial) fun _ => ?_
      refine run_nil ?_
      refine aend_then ?_
      refine awp_seq ?_
      refine awp_region ?_
      refine sq rfl rfl hn rfl (q_move rfl rfl) ?_
      refine sq rfl rfl hn rfl (q_move rfl rfl) ?_
      refine stepW (s_call [] (fun _ => has_ok d k hd (by omega)) rfl (guard_none rfl) rfl (nb hn rfl) (fun _ => trivial) rfl rfl (.refl _)) fun _ => ?_
      refine sq rfl rfl hn rfl (q_move rfl rfl) ?_
      refine stepG [] (guard_some rfl rfl rfl) rfl (nb hn rfl) (fun hc => trivial) (fun hc => q_fieldAddr rfl rfl Try.underlying95 rfl sz3) ?_
      refine stepG [(38, _)] (guard_some rfl rfl rfl) rfl (nb hn rfl) (fun hc => ⟨⟨_, rfl, hc⟩, trivial⟩) (fun hc => q_load rfl rfl (id := 8) rfl Try.underlying3 rfl rfl sees0) ?_
      refine stepG [] (guard_some rfl rfl rfl) rfl (nb hn rfl) (fun hc => trivial) (fun hc => q_move rfl rfl) ?_
      refine stepG [(39, _), (40, _)] (guard_some rfl rfl rfl) rfl (nb hn rfl) (fun hc => ⟨⟨_, rfl, hc⟩, ⟨_, rfl, hc⟩, trivial⟩) (fun hc => q_eql rfl rfl rfl) ?_
      refine sq rfl rfl hn rfl (q_and rfl rfl rfl (by intro hB; first | (rw [hB]; rfl) | (rw [hB, hc]; rfl) | simp_all)) ?_
      refine run_nil ?_
      refine aend_then ?_
      refine awp_cond rfl (fun hb2 => ?_) (fun hb2 => ?_)
      · skip
        refine awp_seq ?_
        refine awp_region ?_
        refine sq rfl rfl hn rfl (q_fieldAddr rfl rfl Try.underlying95 rfl sz3) ?_
        refine sq rfl rfl hn rfl (q_load rfl rfl (id := 8) rfl Try.underlying3 rfl rfl sees0) ?_
        refine sq rfl rfl hn rfl (q_indexA (i := e.frm.toNat) rfl rfl rfl Try.underlying83 sz3 (by omega) (by omega)) ?_
        refine sq rfl rfl hn rfl (q_load rfl rfl (id := 6) rfl Try.underlying3 rfl (at1 (getD_some (by omega))) sees0) ?_
        refine sq rfl rfl hn rfl (q_sub rfl rfl rfl (r := c.getD e.frm.toNat 0 + (-1)) (i64w (by omega) (by omega))) ?_
        refine sq rfl rfl hn rfl (q_indexA (i := e.frm.toNat) rfl rfl rfl Try.underlying83 sz3 (by omega) (by omega)) ?_
        refine stepW (s_store1 rfl rfl rfl rfl rfl rfl (id := 6) rfl sz3 (by simp; omega) (show _ = (bump c e.frm (-1)).map intT from set1) trivial) fun _ => ?_
        refine run_nil ?_
        refine aend_then ?_
        refine awp_region ?_
        refine sq rfl rfl hn rfl (q_fieldAddr rfl rfl Try.underlying95 rfl sz3) ?_
        refine sq rfl rfl hn rfl (q_load rfl rfl (id := 8) rfl Try.underlying3 rfl rfl sees0) ?_
        refine sq rfl rfl hn rfl (q_indexA (i := e.to.toNat) rfl rfl rfl Try.underlying83 sz3 (by omega) (by omega)) ?_
        refine sq rfl rfl hn rfl (q_load rfl rfl (id := 6) rfl Try.underlying3 rfl (at1 (getD_some (by omega))) sees0) ?_
        refine sq rfl rfl hn rfl (q_add rfl rfl rfl (r := (bump c e.frm (-1)).getD e.to.toNat 0 + 1) (i64w (by omega) (by omega))) ?_
        refine sq rfl rfl hn rfl (q_indexA (i := e.to.toNat) rfl rfl rfl Try.underlying83 sz3 (by omega) (by omega)) ?_
        refine stepW (s_store1 rfl rfl rfl rfl rfl rfl (id := 6) rfl sz3 (by simp; omega) (show _ = (bump (bump c e.frm (-1)) e.to 1).map intT from set1) trivial) fun _ => ?_
        refine run_nil ?_
        refine aend_block ?_
        refine aend_then ?_
        refine awp_region ?_
        refine sq rfl rfl hn rfl (q_add rfl rfl rfl (r := ((k + 1 : Nat) : Int)) (i64w (by omega) (by omega))) ?_
        refine sq rfl rfl hn rfl (q_move rfl rfl) ?_
        refine run_nil ?_
        exact aend_round_on ⟨(k + 1, bump (bump c e.frm (-1)) e.to 1), by simp only; omega, hl2, fun z hz => by have := hbd2 z hz; simp only; omega, by rw [hF, hb2]; rfl⟩ ⟨.inl rfl, holdT_anys _⟩ ⟨.inl rfl, holdR_gones _⟩ (by simp only; omega) (by repeat (first | exact kr _ | refine kc rfl ?_)) (by repeat (first | exact kr _ | refine kc rfl ?_))
      · skip
        refine awp_skip ?_
        refine aend_block ?_
        refine aend_then ?_
        refine awp_region ?_
        refine sq rfl rfl hn rfl (q_add rfl rfl rfl (r := ((k + 1 : Nat) : Int)) (i64w (by omega) (by omega))) ?_
        refine sq rfl rfl hn rfl (q_move rfl rfl) ?_
        refine run_nil ?_
        exact aend_round_on ⟨(k + 1, c), by simp only; omega, hc4, fun z hz => by have := hbd z hz; simp only; omega, by rw [hF, hb2]; rfl⟩ ⟨.inl rfl, holdT_anys _⟩ ⟨.inl rfl, holdR_gones _⟩ (by simp only; omega) (by repeat (first | exact kr _ | refine kc rfl ?_)) (by repeat (first | exact kr _ | refine kc rfl ?_))
    · try simp only [decide_eq_true_eq, decide_eq_false_iff_not, Bool.and_eq_true, Bool.or_eq_true, Bool.and_eq_false_iff, Bool.or_eq_false_iff, Bool.not_eq_true', Bool.not_eq_false', beq_iff_eq, bne_iff_ne, ne_eq, beq_eq_false_iff_ne, bne_eq_false_iff_eq, Int.not_lt, Int.not_le] at hb1
      have hke : k = r.entries.length := by simp only [List.length_map] at hb1; omega
      have hpl : idxOf (fun x => (1 : Int) == x) c = placeOf r d i := by subst hke; rw [List.drop_length] at hF; unfold placeOf; rw [getD_of hx0, hF]; rfl
      refine awp_exit ?_
      refine aend_then_exit ?_
      refine aend_then_exit ?_
      refine aend_block_exit ?_
      refine aend_then ?_
      refine awp_region ?_
      refine sq rfl rfl hn rfl (q_move rfl rfl) ?_
      refine gh_run (g_freeze (t := 6) 6 rfl (nb hn rfl) rfl (allD_int c) trivial) ?_
      refine sq rfl rfl hn rfl (q_sliceP rfl rfl Try.underlying83 sz3 (beq_int4 hc4) (chunk_int4 hc4) rfl) ?_
      refine stepW (s_call [] (fun _ => hpl ▸ Index_ok c 1) rfl (guard_none rfl) rfl (nb hn rfl) (fun _ => trivial) rfl rfl (.refl _)) fun _ => ?_
      refine sq rfl rfl hn rfl (q_indexA rfl rfl rfl Try.underlying103 sz3 rfl (by omega)) ?_
      refine stepW (s_store1 rfl rfl rfl rfl rfl rfl (id := 4) rfl sz3 (by simp [placesL]; omega) (set1.trans (congrArg _ (placesL_set hi4))) trivial) fun _ => ?_
      refine run_nil ?_
      refine aend_block ?_
      refine aend_then ?_
      refine awp_region ?_
      refine sq rfl rfl hn rfl (q_add rfl rfl rfl (r := ((i + 1 : Nat) : Int)) (i64w (by omega) (by omega))) ?_
      refine sq rfl rfl hn rfl (q_move rfl rfl) ?_
      refine run_nil ?_
      exact aend_round_on ⟨i + 1, by omega⟩ ⟨.inl rfl, holdT_anys _⟩ ⟨.inl rfl, holdR_gones _⟩ (by simp only; omega) (by repeat (first | exact kr _ | refine kc rfl ?_)) (by repeat (first | exact kr _ | refine kc rfl ?_))
  · try simp only [decide_eq_true_eq, decide_eq_false_iff_not, Bool.and_eq_true, Bool.or_eq_true, Bool.and_eq_false_iff, Bool.or_eq_false_iff, Bool.not_eq_true', Bool.not_eq_false', beq_iff_eq, bne_iff_ne, ne_eq, beq_eq_false_iff_ne, bne_eq_false_iff_eq, Int.not_lt, Int.not_le] at hb0
    have hie : i = r.start.length := by simp only [List.length_map] at hb0; omega
    subst hie
    refine awp_exit ?_
    refine aend_then_exit ?_
    refine aend_then_exit ?_
    refine aend_block_exit ?_
    refine aend_then ?_
    refine awp_seq ?_
    refine awp_region ?_
    refine sq rfl rfl hn rfl (q_loadAd rfl rfl (id := 4) rfl Try.underlying103 rfl sz103 rfl rfl sees0) ?_
    refine stepW (s_store rfl rfl rfl rfl rfl rfl (id := 4) rfl sz103 rfl (Nat.le_of_ble_eq_true rfl) rfl trivial) fun _ => ?_
    refine run_nil ?_
    refine aend_then ?_
    refine awp_ret ?_
    exact ret_1 (.inl rfl) hl rfl (.cellA rfl (id := 4) rfl Try.underlying103 rfl sz103 rfl rfl)
theorem placesA_len (r : Reg) (d : Nat) : (placesA r d).length = 4 := by simp [placesA, placesL]
def canE (r : Reg) (i : Nat) (e : Ent5) (d : Nat) : Bool := !(d.testBit i) && ((placesA r d).getD e.sheet.toNat 0 == e.frm) && ((e.kind != 2) || decide (0 < openN r d e.to e.frm))
def canB (r : Reg) (i d : Nat) : Bool := match r.entries[i]? with
  | none => false
  | some e => canE r i e d
theorem can_ok (r : Reg) (i d : Nat) (v : Valid r) (hd : d < 18446744073709551616) (hi : i < r.entries.length) : PureAt Try.prog 93 [regD r, .int .i64 (i : Nat), .int .u64 (d : Nat)] (.bool (canB r i d)) := by
  have he6 := v.e6; have hs4 := v.s4
  obtain ⟨e, he⟩ := ex_get hi
  have hen := v.en e (List.mem_of_getElem? he)
  refine PureAt.of_awp Try.func93 rfl (by kernel_rfl) (Nat.le_of_ble_eq_true rfl) fun Γ hn hl => ?_
  refine awp_seq ?_
  refine awp_region ?_
  refine stepW (s_box 3 rfl rfl rfl (nb hn rfl) rfl rfl) fun b3 => ?_
  refine sq rfl rfl hn rfl (q_assign rfl rfl) ?_
  refine run_nil ?_
  refine aend_then ?_
  refine awp_seq ?_
  refine awp_region ?_
  refine sq rfl rfl hn rfl (q_fieldAddr rfl rfl Try.underlying35 rfl sz32) ?_
  refine sq rfl rfl hn rfl (q_load rfl rfl (id := 3) rfl Try.underlying32 rfl rfl sees0) ?_
  refine sq rfl rfl hn rfl (q_move rfl rfl) ?_
  refine sq rfl rfl hn rfl (q_index rfl rfl rfl Try.underlying32 sz95 rfl (mget he)) ?_
  refine sq rfl rfl hn rfl (q_loadpA rfl rfl Try.underlying95 rfl sz95 rfl rfl seesF0) ?_
  refine stepW (s_alloc 7 rfl rfl rfl (nb hn rfl) zr95 rfl rfl) fun b7 => ?_
  refine stepW (s_store rfl rfl rfl rfl rfl rfl (id := 7) rfl sz95 rfl (Nat.le_of_ble_eq_true rfl) rfl trivial) fun _ => ?_
  refine run_nil ?_
  refine aend_then ?_
  refine awp_seq ?_
  refine d_start (W := fun b => b ≠ b3 ∧ b ≠ b7) fmo ?_
  refine d1q (i := 0) rfl (by kernel_rfl) (fun _ _ _ _ h => h) rfl rfl hn rfl (q_move rfl rfl) ?_
  refine d1q (i := 1) rfl (by kernel_rfl) (fun _ _ _ _ h => h) rfl rfl hn rfl (q_move rfl rfl) ?_
  refine d1_of_d2 ?_
  refine d2_one (i := 2) (by kernel_rfl) rfl (s_call [] (fun _ => has_ok d i hd (by omega)) rfl (guard_none rfl) rfl (nb hn rfl) (fun _ => trivial) rfl rfl (.refl _)) fun _ => ?_
  refine d2_of_d1 ?_
  refine d1q (i := 3) rfl (by kernel_rfl) (fun _ _ _ _ h => h) rfl rfl hn rfl (q_not rfl rfl) ?_
  refine d1q (i := 4) rfl (by kernel_rfl) (fun _ _ _ _ h => h) rfl rfl hn rfl (q_move rfl rfl) ?_
  refine d1g (i := 5) [] rfl (by kernel_rfl) (fun _ _ _ _ h => h) (guard_some rfl rfl rfl) rfl hn rfl (fun hc => trivial) (fun hc => q_loadAd rfl rfl (id := 3) rfl Try.underlying35 rfl sz35 rfl rfl (seesA (by simp))) ?_
  refine d1g (i := 6) [] rfl (by kernel_rfl) (fun _ _ _ _ h => h) (guard_some rfl rfl rfl) rfl hn rfl (fun hc => trivial) (fun hc => q_move rfl rfl) ?_
  refine d1g (i := 8) [] rfl (by kernel_rfl) (fun _ _ _ _ h => h) (guard_some rfl rfl rfl) rfl hn rfl (fun hc => trivial) (fun hc => q_fieldAddr rfl rfl Try.underlying95 rfl sz3) ?_
  refine d1g (i := 9) [(21, _)] rfl (by kernel_rfl) (fun _ _ _ _ h => h) (guard_some rfl rfl rfl) rfl hn rfl (fun hc => ⟨⟨_, rfl, hc⟩, trivial⟩) (fun hc => q_load rfl rfl (id := 7) rfl Try.underlying3 rfl rfl (seesA (by simp))) ?_
  refine d1g (i := 11) [] rfl (by kernel_rfl) (fun _ _ _ _ h => h) (guard_some rfl rfl rfl) rfl hn rfl (fun hc => trivial) (fun hc => q_fieldAddr rfl rfl Try.underlying95 rfl sz3) ?_
  refine d1g (i := 12) [(24, _)] rfl (by kernel_rfl) (fun _ _ _ _ h => h) (guard_some rfl rfl rfl) rfl hn rfl (fun hc => ⟨⟨_, rfl, hc⟩, trivial⟩) (fun hc => q_load rfl rfl (id := 7) rfl Try.underlying3 rfl rfl (seesA (by simp))) ?_
  refine d1_of_d2 ?_
  refine d2_one (i := 7) (by kernel_rfl) rfl (s_call [(18, _), (19, _)] (fun hc => places_ok r _ v (by assumption)) rfl (guard_some rfl rfl rfl) rfl (nb hn rfl) (fun hc => ⟨⟨_, rfl, hc⟩, ⟨_, rfl, hc⟩, trivial⟩) rfl rfl (.refl _)) fun _ => ?_
  refine d2_of_d1 ?_
  refine d1g (i := 10) [(20, _), (22, _)] rfl (by kernel_rfl) (fun _ _ _ _ h => h) (guard_some rfl rfl rfl) rfl hn rfl (fun hc => ⟨⟨_, rfl, hc⟩, ⟨_, rfl, hc⟩, trivial⟩) (fun hc => q_indexAgg (i := e.sheet.toNat) rfl rfl rfl Try.underlying103 Try.underlying3 rfl sz3 (by omega) (by omega) (mget (getD_some (by rw [placesA_len]; omega)))) ?_
  refine d1g (i := 13) [(23, _), (25, _)] rfl (by kernel_rfl) (fun _ _ _ _ h => h) (guard_some rfl rfl rfl) rfl hn rfl (fun hc => ⟨⟨_, rfl, hc⟩, ⟨_, rfl, hc⟩, trivial⟩) (fun hc => q_eql rfl rfl rfl) ?_
  refine d1q (i := 14) rfl (by kernel_rfl) (fun _ _ _ _ h => h) rfl rfl hn rfl (q_and rfl rfl rfl (by intro hB; first | (rw [hB]; rfl) | (rw [hB, hc]; rfl) | simp_all)) ?_
  refine d1q (i := 15) rfl (by kernel_rfl) (fun _ _ _ _ h => h) rfl rfl hn rfl (q_move rfl rfl) ?_
  refine d1g (i := 16) [] rfl (by kernel_rfl) (fun _ _ _ _ h => h) (guard_some rfl rfl rfl) rfl hn rfl (fun hc => trivial) (fun hc => q_fieldAddr rfl rfl Try.underlying95 rfl sz3) ?_
  refine d1g (i := 17) [(29, _)] rfl (by kernel_rfl) (fun _ _ _ _ h => h) (guard_some rfl rfl rfl) rfl hn rfl (fun hc => ⟨⟨_, rfl, hc⟩, trivial⟩) (fun hc => q_load rfl rfl (id := 7) rfl Try.underlying3 rfl rfl (seesA (by simp))) ?_
  refine d1g (i := 18) [(30, _)] rfl (by kernel_rfl) (fun _ _ _ _ h => h) (guard_some rfl rfl rfl) rfl hn rfl (fun hc => ⟨⟨_, rfl, hc⟩, trivial⟩) (fun hc => q_neq rfl rfl rfl) ?_
  refine d1g (i := 19) [(31, _)] rfl (by kernel_rfl) (fun _ _ _ _ h => h) (guard_some rfl rfl rfl) rfl hn rfl (fun hc => ⟨⟨_, rfl, hc⟩, trivial⟩) (fun hc => q_move rfl rfl) ?_
  refine d1g (i := 20) [] rfl (by kernel_rfl) (fun _ _ _ _ h => h) (guard_some rfl rfl rfl) rfl hn rfl (fun hc => trivial) (fun hc => q_loadAd rfl rfl (id := 3) rfl Try.underlying35 rfl sz35 rfl rfl (seesA (by simp))) ?_
  refine d1g (i := 21) [] rfl (by kernel_rfl) (fun _ _ _ _ h => h) (guard_some rfl rfl rfl) rfl hn rfl (fun hc => trivial) (fun hc => q_move rfl rfl) ?_
  refine d1g (i := 22) [] rfl (by kernel_rfl) (fun _ _ _ _ h => h) (guard_some rfl rfl rfl) rfl hn rfl (fun hc => trivial) (fun hc => q_fieldAddr rfl rfl Try.underlying95 rfl sz3) ?_
  refine d1g (i := 23) [(35, _)] rfl (by kernel_rfl) (fun _ _ _ _ h => h) (guard_some rfl rfl rfl) rfl hn rfl (fun hc => ⟨⟨_, rfl, hc⟩, trivial⟩) (fun hc => q_load rfl rfl (id := 7) rfl Try.underlying3 rfl rfl (seesA (by simp))) ?_
  refine d1g (i := 24) [] rfl (by kernel_rfl) (fun _ _ _ _ h => h) (guard_some rfl rfl rfl) rfl hn rfl (fun hc => trivial) (fun hc => q_fieldAddr rfl rfl Try.underlying95 rfl sz3) ?_
  refine d1g (i := 25) [(37, _)] rfl (by kernel_rfl) (fun _ _ _ _ h => h) (guard_some rfl rfl rfl) rfl hn rfl (fun hc => ⟨⟨_, rfl, hc⟩, trivial⟩) (fun hc => q_load rfl rfl (id := 7) rfl Try.underlying3 rfl rfl (seesA (by simp))) ?_
  refine d1_of_d2 ?_
  refine d2_one (i := 26) (by kernel_rfl) rfl (s_call [(33, _), (34, _), (36, _), (38, _)] (fun hc => open_ok _ _ _ _ v hd) rfl (guard_some rfl rfl rfl) rfl (nb hn rfl) (fun hc => ⟨⟨_, rfl, hc⟩, ⟨_, rfl, hc⟩, ⟨_, rfl, hc⟩, ⟨_, rfl, hc⟩, trivial⟩) rfl rfl (.refl _)) fun _ => ?_
  refine d2_of_d1 ?_
  refine d1g (i := 27) [(39, _)] rfl (by kernel_rfl) (fun _ _ _ _ h => h) (guard_some rfl rfl rfl) rfl hn rfl (fun hc => ⟨⟨_, rfl, hc⟩, trivial⟩) (fun hc => q_gtr rfl rfl rfl) ?_
  refine d1g (i := 28) [(32, _)] rfl (by kernel_rfl) (fun _ _ _ _ h => h) (guard_some rfl rfl rfl) rfl hn rfl (fun hc => ⟨⟨_, rfl, hc⟩, trivial⟩) (fun hc => q_or rfl rfl rfl (by intro hB; first | (rw [hB]; rfl) | (rw [hB, hc]; rfl) | simp_all)) ?_
  refine d1q (i := 29) rfl (by kernel_rfl) (fun _ _ _ _ h => h) rfl rfl hn rfl (q_and rfl rfl rfl (by intro hB; first | (rw [hB]; rfl) | (rw [hB, hc]; rfl) | simp_all)) ?_
  refine d1q (i := 30) rfl (by kernel_rfl) (fun _ _ _ _ h => h) rfl rfl hn rfl (q_assign rfl rfl) ?_
  refine d1_of_d2 ?_
  refine d2_done (by kernel_rfl) ?_
  refine aend_then ?_
  refine awp_ret ?_
  refine ret_eq (ret_1 (.inl rfl) hl rfl (.tmp rfl)) ?_
  simp only [canB, he, canE, Bool.and_assoc]
theorem shl_bit {k : Nat} (h : k < 64) : IntKind.u64.wrap (1 * 2 ^ ((k : Int)).toNat) = ((2 ^ k : Nat) : Int) := by
  have h1 : 2 ^ k < 18446744073709551616 := by
    have := Nat.pow_lt_pow_right (a := 2) (by omega) h
    simpa using this
  have e : (1 * 2 ^ ((k : Int)).toNat : Int) = ((2 ^ k : Nat) : Int) := by simp
  rw [e]
  generalize 2 ^ k = x at h1
  exact u64w (by omega) rfl
theorem or_bits {d x : Nat} (hd : d < 18446744073709551616) (hx : x < 18446744073709551616) : bits .or .u64 (d : Int) (x : Int) = ((d ||| x : Nat) : Int) := bits_or_u64_nat d x hd hx
theorem pow_lt {k : Nat} (h : k < 64) : 2 ^ k < 18446744073709551616 := by
  have := Nat.pow_lt_pow_right (a := 2) (by omega) h
  simpa using this
theorem or_lt {d x : Nat} (hd : d < 18446744073709551616) (hx : x < 18446744073709551616) : d ||| x < 18446744073709551616 := by
  have := Nat.or_lt_two_pow (x := d) (y := x) (n := 64) (by simpa using hd) (by simpa using hx)
  simpa using this
/-- Those of one day happen, in the order of their numbers. -/
def dayF (r : Reg) (n : Int) : Nat → List Int → Nat → Option Nat
  | _, [], d => some d
  | k, t :: ts, d => bif t != n then dayF r n (k + 1) ts d else bif !(canB r k d) then none else dayF r n (k + 1) ts (d ||| 2 ^ k)
def playF (r : Reg) (truth : List Int) : Nat → Nat → Nat → Option (List Nat)
  | 0, _, _ => some []
  | m + 1, n, d => match dayF r n 0 truth d with
    | none => none
    | some d' => match playF r truth m (n + 1) d' with
      | none => none
      | some ds => some (d' :: ds)
/-- What has happened at the end of each day. -/
def playDays (r : Reg) (truth : List Int) : Option (List Nat) := playF r truth 10 0 0
def playRow (r : Reg) (d : Nat) : List D := (placesA r d).map intD
def addF (ds : List Nat) : Option (List Nat) → Option (List Nat)
  | none => none
  | some es => some (ds ++ es)
theorem addF_nil (o : Option (List Nat)) : addF [] o = o := by cases o <;> rfl
theorem playF_step {r : Reg} {truth : List Int} {m n d d' : Nat} {ds : List Nat} (h : dayF r n 0 truth d = some d') : addF ds (playF r truth (m + 1) n d) = addF (ds ++ [d']) (playF r truth m (n + 1) d') := by
  simp only [playF, h]
  cases playF r truth m (n + 1) d' <;> simp [addF]
theorem playF_none {r : Reg} {truth : List Int} {m n d : Nat} {ds : List Nat} (h : dayF r n 0 truth d = none) : addF ds (playF r truth (m + 1) n d) = none := by
  simp only [playF, h, addF]
theorem playRow_len (r : Reg) (d : Nat) : (playRow r d).length = 4 := by simp [playRow, placesA_len]
theorem fill_row {r : Reg} {d : Nat} {zs : List TV} (hz : zs.length = 4) : fillTV (fun i => some (i * 4, 4)) zs [(0, .d (.agg (playRow r d)))] = some ((playRow r d).map .d) := by
  simp only [fillTV, TV.cells, List.length_map, playRow_len, hz, TV.flat, Nat.zero_mul, Nat.zero_add]
  rw [List.drop_of_length_le (by omega)]
  simp [Nat.beq, Nat.ble]
theorem playF_len {r : Reg} {l : List Int} : ∀ {m n d : Nat} {ds : List Nat}, playF r l m n d = some ds → ds.length = m
  | 0, _, _, _, h => by simp only [playF, Option.some.injEq] at h; subst h; rfl
  | m + 1, n, d, ds, h => by
    simp only [playF] at h
    cases h1 : dayF r n 0 l d with
    | none => simp [h1] at h
    | some d' =>
      simp only [h1] at h
      cases h2 : playF r l m (n + 1) d' with
      | none => simp [h2] at h
      | some es =>
        simp only [h2, Option.some.injEq] at h
        subst h
        simp [playF_len h2]
theorem playDays_len {r : Reg} {l : List Int} {ds : List Nat} (h : playDays r l = some ds) : ds.length = 10 := playF_len h
theorem playDays_le (r : Reg) (l : List Int) : ((playDays r l).getD []).length ≤ 10 := by
  cases h : playDays r l with
  | none => simp
  | some ds => simp [playDays_len h]
theorem allD_d : ∀ (l : List D), allD (l.map .d) = some l
  | [] => rfl
  | x :: l => by simp only [List.map_cons, allD, allD_d l]
theorem chunk_row {r : Reg} {d : Nat} : chunk 4 1 (playRow r d) = [playRow r d] := by
  simp only [chunk]
  rw [List.take_of_length_le (by rw [playRow_len]; omega)]
theorem play_ok (r : Reg) (l : List Int) (v : Valid r) (hl5 : l.length = r.entries.length) : PureAt Try.prog 80 [regD r, ints l] (.tup [.slice 4 (((playDays r l).getD []).map (playRow r)), .bool (playDays r l).isSome]) := by
  refine PureAt.of_awp Try.func80 rfl (by kernel_rfl) (Nat.le_of_ble_eq_true rfl) fun Γ hn hl => ?_
  have he6 := v.e6
  refine awp_seq ?_
  refine awp_region ?_
  refine stepW (s_box 2 rfl rfl rfl (nb hn rfl) rfl rfl) fun b2 => ?_
  refine sq rfl rfl hn rfl (q_assign rfl rfl) ?_
  refine sq rfl rfl hn rfl (q_assign rfl rfl) ?_
  refine run_nil ?_
  refine aend_then ?_
  refine awp_seq ?_
  refine gh_awp (g_nil (t := 4) (id := 4) 103 4 rfl (nb hn rfl)) ?_
  refine awp_region ?_
  refine sq rfl rfl hn rfl (q_assign rfl rfl) ?_
  refine run_nil ?_
  refine aend_then ?_
  refine awp_seq ?_
  refine awp_seq ?_
  refine awp_region ?_
  refine sq rfl rfl hn rfl (q_move rfl rfl) ?_
  refine run_nil ?_
  refine aend_then ?_
  refine awp_block ?_
  refine awp_loop_on (ι := { x : Nat × Nat × List Nat × Value // x.1 ≤ 10 ∧ x.2.1 < 18446744073709551616 ∧ x.2.2.1.length = x.1 ∧ playDays r l = addF x.2.2.1 (playF r l (10 - x.1) x.1 x.2.1) }) (fun x => (10, true, .d (.int .i64 (x.1.1 : Int))) :: (6, true, .d (.int .u64 (x.1.2.1 : Nat))) :: (4, true, .val x.1.2.2.2) :: anys [11, 12, 7, 13, 14, 15, 16, 17, 18, 19, 8, 9, 20, 21, 22, 23, 24, 25, 26, 27, 28, 29, 30, 31, 32, 33, 34, 35, 36, 37, 38, 39]) (fun x => [(4, .row x.1.2.2.2 103 4 (x.1.2.2.1.map (playRow r)))]) (fun x => 10 - x.1.1) ⟨(0, 0, [], .slice none 0 0), by simp, by simp, rfl, (addF_nil _).symm⟩ ⟨.inl rfl, .inl rfl, .inl rfl, holdT_anys _⟩ ⟨.inl rfl, trivial⟩ ?_
  rintro ⟨⟨n, d, ds, vv⟩, hn10, hd, hds, hF⟩
  dsimp only
  dsimp only at hn10 hd hds hF
  refine awp_seq ?_
  refine awp_region ?_
  refine sq rfl rfl hn rfl (q_lss rfl rfl rfl) ?_
  refine run_nil ?_
  refine aend_then ?_
  refine awp_seq ?_
  refine awp_cond rfl (fun hb0 => ?_) (fun hb0 => ?_)
  · try simp only [decide_eq_true_eq, decide_eq_false_iff_not, Bool.and_eq_true, Bool.or_eq_true, Bool.and_eq_false_iff, Bool.or_eq_false_iff, Bool.not_eq_true', Bool.not_eq_false', beq_iff_eq, bne_iff_ne, ne_eq, beq_eq_false_iff_ne, bne_eq_false_iff_eq, Int.not_lt, Int.not_le] at hb0
    have hlt : n < 10 := by omega
    refine awp_skip ?_
    refine aend_then ?_
    refine awp_seq ?_
    refine awp_block ?_
    refine awp_seq ?_
    refine awp_region ?_
    refine sq rfl rfl hn rfl (q_move rfl rfl) ?_
    refine sq rfl rfl hn rfl (q_assign rfl rfl) ?_
    refine run_nil ?_
    refine aend_then ?_
    refine awp_seq ?_
    refine awp_seq ?_
    refine awp_region ?_
    refine sq rfl rfl hn rfl (q_move rfl rfl) ?_
    refine sq rfl rfl hn rfl (q_len rfl rfl Try.underlying22) ?_
    refine sq rfl rfl hn rfl (q_move rfl rfl) ?_
    refine run_nil ?_
    refine aend_then ?_
    refine awp_block ?_
    refine awp_loop_on (ι := { y : Nat × Nat // y.1 ≤ l.length ∧ y.2 < 18446744073709551616 ∧ dayF r n 0 l d = dayF r n y.1 (l.drop y.1) y.2 }) (fun y => (15, true, .d (.int .i64 (y.1.1 : Int))) :: (6, true, .d (.int .u64 (y.1.2 : Nat))) :: anys [16, 17, 18, 19, 8, 9, 20, 21, 22, 23, 24, 25, 26, 27, 28, 29, 30, 31, 32]) (fun y => []) (fun y => l.length - y.1.1) ⟨(0, d), by simp, hd, by simp⟩ ⟨.inl rfl, .inl rfl, holdT_anys _⟩ trivial ?_
    rintro ⟨⟨k, d2⟩, hk, hd2, hG⟩
    dsimp only
    dsimp only at hk hd2 hG
    refine awp_seq ?_
    refine awp_region ?_
    refine sq rfl rfl hn rfl (q_lss rfl rfl rfl) ?_
    refine run_nil ?_
    refine aend_then ?_
    refine awp_seq ?_
    refine awp_cond rfl (fun hb1 => ?_) (fun hb1 => ?_)
    · try simp only [decide_eq_true_eq, decide_eq_false_iff_not, Bool.and_eq_true, Bool.or_eq_true, Bool.and_eq_false_iff, Bool.or_eq_false_iff, Bool.not_eq_true', Bool.not_eq_false', beq_iff_eq, bne_iff_ne, ne_eq, beq_eq_false_iff_ne, bne_eq_false_iff_eq, Int.not_lt, Int.not_le] at hb1
      have hlt2 : k < l.length := by simpa using hb1
      obtain ⟨t, ht⟩ := ex_get hlt2
      rw [drop_of ht] at hG; simp only [dayF] at hG
      refine awp_skip ?_
      refine aend_then ?_
      refine awp_seq ?_
      refine awp_block ?_
      refine awp_seq ?_
      refine awp_region ?_
      refine sq rfl rfl hn rfl (q_move rfl rfl) ?_
      refine sq rfl rfl hn rfl (q_index rfl rfl rfl Try.underlying22 sz3 rfl (mget ht)) ?_
      refine sq rfl rfl hn rfl (q_loadp rfl rfl Try.underlying3 rfl seesF0) ?_
      refine sq rfl rfl hn rfl (q_assign rfl rfl) ?_
      refine sq rfl rfl hn rfl (q_assign rfl rfl) ?_
      refine run_nil ?_
      refine aend_then ?_
      refine awp_seq ?_
      refine awp_seq ?_
      refine awp_region ?_
      refine sq rfl rfl hn rfl (q_move rfl rfl) ?_
      refine sq rfl rfl hn rfl (q_move rfl rfl) ?_
      refine sq rfl rfl hn rfl (q_neq rfl rfl rfl) ?_
      refine run_nil ?_
      refine aend_then ?_
      refine awp_cond rfl (fun hb2 => ?_) (fun hb2 => ?_)
      · skip
        refine awp_exit ?_
        refine aend_then_exit ?_
        refine aend_block_exit ?_
        refine aend_then ?_
        refine awp_region ?_
        refine sq rfl rfl hn rfl (q_add rfl rfl rfl (r := ((k + 1 : Nat) : Int)) (i64w (by omega) (by omega))) ?_
        refine sq rfl rfl hn rfl (q_move rfl rfl) ?_
        refine run_nil ?_
        exact aend_round_on ⟨(k + 1, d2), by simp only; omega, hd2, by rw [hG, hb2]; rfl⟩ ⟨.inl rfl, .inl rfl, holdT_anys _⟩ trivial (by simp only; omega) (by repeat (first | exact kr _ | refine kc rfl ?_)) (by repeat (first | exact kr _ | refine kc rfl ?_))
      · skip
        refine awp_skip ?_
        refine aend_then ?_
        refine awp_seq ?_
        refine awp_seq ?_
        refine awp_region ?_
        refine sq rfl rfl hn rfl (q_loadAd rfl rfl (id := 2) rfl Try.underlying35 rfl sz35 rfl rfl sees0) ?_
        refine sq rfl rfl hn rfl (q_move rfl rfl) ?_
        refine sq rfl rfl hn rfl (q_move rfl rfl) ?_
        refine stepW (s_call [] (fun _ => can_ok r k d2 v hd2 (by omega)) rfl (guard_none rfl) rfl (nb hn rfl) (fun _ => trivial) rfl rfl (.refl _)) fun _ => ?_
        refine sq rfl rfl hn rfl (q_not rfl rfl) ?_
        refine run_nil ?_
        refine aend_then ?_
        refine awp_cond rfl (fun hb3 => ?_) (fun hb3 => ?_)
        · skip
          refine awp_seq ?_
          refine awp_region ?_
          refine sq rfl rfl hn rfl (q_assign rfl rfl) ?_
          refine sq rfl rfl hn rfl (q_assign rfl rfl) ?_
          refine run_nil ?_
          refine aend_then ?_
          refine awp_ret ?_
          refine aend_then_ret ?_
          refine aend_block_ret ?_
          refine aend_then_ret ?_
          refine aend_then_ret ?_
          refine aend_block_ret ?_
          refine aend_then_ret ?_
          refine aend_block_ret ?_
          refine aend_then_ret ?_
          refine aend_then_ret ?_
          refine aend_block_ret ?_
          refine aend_then_ret ?_
          refine ret_le (ret_2 (.inl rfl) hl rfl (.tmp rfl) (.tmp rfl)) ?_
          rw [show playDays r l = none from by rw [hF, show 10 - n = (10 - (n + 1)) + 1 by omega, playF_none (by rw [hG, hb2, hb3]; rfl)]]; (first | exact DLes.refl _ | exact DLe.refl _ | (repeat (first | exact DLes.refl _ | exact DLe.refl _ | exact DLe.nil _ | refine DLes.cons ?_ ?_ | refine DLe.agg ?_ | refine DLe.tup ?_)))
        · skip
          refine awp_skip ?_
          refine aend_then ?_
          refine awp_region ?_
          refine sq rfl rfl hn rfl (q_move rfl rfl) ?_
          refine sq rfl rfl hn rfl (q_move rfl rfl) ?_
          refine sq rfl rfl hn rfl (q_shl rfl rfl rfl (by omega) (by simp [IntKind.bits]; omega) (shl_bit (by omega))) ?_
          refine sq rfl rfl hn rfl (q_bitor rfl rfl rfl (or_bits hd2 (pow_lt (by omega)))) ?_
          refine sq rfl rfl hn rfl (q_assign rfl rfl) ?_
          refine run_nil ?_
          refine aend_block ?_
          refine aend_then ?_
          refine awp_region ?_
          refine sq rfl rfl hn rfl (q_add rfl rfl rfl (r := ((k + 1 : Nat) : Int)) (i64w (by omega) (by omega))) ?_
          refine sq rfl rfl hn rfl (q_move rfl rfl) ?_
          refine run_nil ?_
          exact aend_round_on ⟨(k + 1, d2 ||| 2 ^ k), by simp only; omega, or_lt hd2 (pow_lt (by omega)), by rw [hG, hb2, hb3]; rfl⟩ ⟨.inl rfl, .inl rfl, holdT_anys _⟩ trivial (by simp only; omega) (by repeat (first | exact kr _ | refine kc rfl ?_)) (by repeat (first | exact kr _ | refine kc rfl ?_))
    · try simp only [decide_eq_true_eq, decide_eq_false_iff_not, Bool.and_eq_true, Bool.or_eq_true, Bool.and_eq_false_iff, Bool.or_eq_false_iff, Bool.not_eq_true', Bool.not_eq_false', beq_iff_eq, bne_iff_ne, ne_eq, beq_eq_false_iff_ne, bne_eq_false_iff_eq, Int.not_lt, Int.not_le] at hb1
      have hke : k = l.length := by simp only [List.length_map] at hb1; omega
      have hday : dayF r n 0 l d = some d2 := by subst hke; rw [List.drop_length] at hG; rw [hG]; rfl
      refine awp_exit ?_
      refine aend_then_exit ?_
      refine aend_then_exit ?_
      refine aend_block_exit ?_
      refine aend_then ?_
      refine awp_region ?_
      refine sq rfl rfl hn rfl (q_move rfl rfl) ?_
      refine sq rfl rfl hn rfl (q_loadAd rfl rfl (id := 2) rfl Try.underlying35 rfl sz35 rfl rfl sees0) ?_
      refine sq rfl rfl hn rfl (q_move rfl rfl) ?_
      refine stepW (s_call [] (fun _ => places_ok r _ v (by assumption)) rfl (guard_none rfl) rfl (nb hn rfl) (fun _ => trivial) rfl rfl (.refl _)) fun _ => ?_
      refine stepW (s_buildSlice rfl rfl rfl (nb hn rfl) Try.underlying133 sz103 zr103 rfl rfl rfl (show _ = [.d (.int .i64 0), .d (.int .i64 0), .d (.int .i64 0), .d (.int .i64 0)] from by kernel_rfl) (by kernel_rfl) rfl (fill_row (by kernel_rfl)) (allD_d _) (by rw [playRow_len]; rfl) chunk_row) fun _ => ?_
      refine stepW (s_append (id := 4) rfl rfl rfl (nb hn rfl) elt133 trivial rfl rfl rfl (by simp [hds, chunk]; omega) (by simp [hds, chunk]; omega) (fun b hb => trivial)) fun v38 => ?_
      refine sq rfl rfl hn rfl (q_assign rfl rfl) ?_
      refine run_nil ?_
      refine aend_block ?_
      refine aend_then ?_
      refine awp_region ?_
      refine sq rfl rfl hn rfl (q_add rfl rfl rfl (r := ((n + 1 : Nat) : Int)) (i64w (by omega) (by omega))) ?_
      refine sq rfl rfl hn rfl (q_move rfl rfl) ?_
      refine run_nil ?_
      exact aend_round_on ⟨(n + 1, d2, ds ++ [d2], v38), by simp only; omega, hd2, by simp [hds], by rw [hF, show 10 - n = (10 - (n + 1)) + 1 by omega, playF_step hday]⟩ ⟨.inl rfl, .inl rfl, .inl rfl, holdT_anys _⟩ ⟨.inl (by rw [List.map_append]; rfl), trivial⟩ (by simp only; omega) (by repeat (first | exact kr _ | refine kc rfl ?_)) (by repeat (first | exact kr _ | refine kc rfl ?_))
  · try simp only [decide_eq_true_eq, decide_eq_false_iff_not, Bool.and_eq_true, Bool.or_eq_true, Bool.and_eq_false_iff, Bool.or_eq_false_iff, Bool.not_eq_true', Bool.not_eq_false', beq_iff_eq, bne_iff_ne, ne_eq, beq_eq_false_iff_ne, bne_eq_false_iff_eq, Int.not_lt, Int.not_le] at hb0
    have hne : n = 10 := by omega
    subst hne
    refine awp_exit ?_
    refine aend_then_exit ?_
    refine aend_then_exit ?_
    refine aend_block_exit ?_
    refine aend_then ?_
    refine awp_seq ?_
    refine awp_region ?_
    refine sq rfl rfl hn rfl (q_move rfl rfl) ?_
    refine sq rfl rfl hn rfl (q_assign rfl rfl) ?_
    refine sq rfl rfl hn rfl (q_assign rfl rfl) ?_
    refine run_nil ?_
    refine aend_then ?_
    refine awp_ret ?_
    refine gh_end (g_row (t := 4) (id := 4) rfl rfl) ?_
    refine ret_eq (ret_2 (.inl rfl) hl rfl (.tmp rfl) (.tmp rfl)) ?_
    rw [show playDays r l = some ds from by rw [hF]; simp [playF, addF]]; rfl
def datedF : List Ent5 → List Int → Bool
  | [], [] => true
  | e :: es, t :: ts => (decide (e.lo ≤ t) && decide (t ≤ e.hi)) && datedF es ts
  | _, _ => false
theorem datedF_len : ∀ {es : List Ent5} {ts : List Int}, datedF es ts = true → ts.length = es.length
  | [], [], _ => rfl
  | e :: es, t :: ts, h => by simp only [datedF, Bool.and_eq_true] at h; simp [datedF_len h.2]
  | [], _ :: _, h => by simp [datedF] at h
  | _ :: _, [], h => by simp [datedF] at h
theorem dated_ok (r : Reg) (l : List Int) (v : Valid r) : PureAt Try.prog 79 [regD r, ints l] (.bool (datedF r.entries l)) := by
  refine PureAt.of_awp Try.func79 rfl (by kernel_rfl) (Nat.le_of_ble_eq_true rfl) fun Γ hn hl => ?_
  have he6 := v.e6
  refine awp_seq ?_
  refine awp_region ?_
  refine stepW (s_box 2 rfl rfl rfl (nb hn rfl) rfl rfl) fun b2 => ?_
  refine sq rfl rfl hn rfl (q_assign rfl rfl) ?_
  refine run_nil ?_
  refine aend_then ?_
  refine awp_seq ?_
  refine awp_seq ?_
  refine awp_region ?_
  refine sq rfl rfl hn rfl (q_move rfl rfl) ?_
  refine sq rfl rfl hn rfl (q_len rfl rfl Try.underlying22) ?_
  refine sq rfl rfl hn rfl (q_fieldAddr rfl rfl Try.underlying35 rfl sz32) ?_
  refine sq rfl rfl hn rfl (q_load rfl rfl (id := 2) rfl Try.underlying32 rfl rfl sees0) ?_
  refine sq rfl rfl hn rfl (q_len rfl rfl Try.underlying32) ?_
  refine sq rfl rfl hn rfl (q_neq rfl rfl rfl) ?_
  refine run_nil ?_
  refine aend_then ?_
  refine awp_cond rfl (fun hb0 => ?_) (fun hb0 => ?_)
  · skip
    refine awp_seq ?_
    refine awp_region ?_
    refine sq rfl rfl hn rfl (q_assign rfl rfl) ?_
    refine run_nil ?_
    refine aend_then ?_
    refine awp_ret ?_
    refine aend_then_ret ?_
    refine ret_eq (ret_1 (.inl rfl) hl rfl (.tmp rfl)) ?_
    rw [show datedF r.entries l = false from by cases h : datedF r.entries l with | false => rfl | true => have := datedF_len h; simp [this] at hb0]
  · try simp only [decide_eq_true_eq, decide_eq_false_iff_not, Bool.and_eq_true, Bool.or_eq_true, Bool.and_eq_false_iff, Bool.or_eq_false_iff, Bool.not_eq_true', Bool.not_eq_false', beq_iff_eq, bne_iff_ne, ne_eq, beq_eq_false_iff_ne, bne_eq_false_iff_eq, Int.not_lt, Int.not_le] at hb0
    have hl5 : l.length = r.entries.length := by simp only [List.length_map] at hb0; omega
    refine awp_skip ?_
    refine aend_then ?_
    refine awp_seq ?_
    refine awp_seq ?_
    refine awp_region ?_
    refine sq rfl rfl hn rfl (q_fieldAddr rfl rfl Try.underlying35 rfl sz32) ?_
    refine sq rfl rfl hn rfl (q_load rfl rfl (id := 2) rfl Try.underlying32 rfl rfl sees0) ?_
    refine sq rfl rfl hn rfl (q_len rfl rfl Try.underlying32) ?_
    refine sq rfl rfl hn rfl (q_move rfl rfl) ?_
    refine run_nil ?_
    refine aend_then ?_
    refine awp_block ?_
    refine awp_loop_on (ι := { i : Nat // i ≤ r.entries.length ∧ datedF r.entries l = datedF (r.entries.drop i) (l.drop i) }) (fun x => (16, true, .d (.int .i64 (x.1 : Int))) :: anys [17, 18, 19, 20, 6, 5, 21, 22, 23, 24, 25, 26, 27, 28, 29, 30, 31, 32, 33]) (fun x => gones [6]) (fun x => r.entries.length - x.1) ⟨0, by simp⟩ ⟨.inl rfl, holdT_anys _⟩ (holdR_gones _) ?_
    rintro ⟨i, hi, hF⟩
    dsimp only
    refine awp_seq ?_
    refine awp_region ?_
    refine sq rfl rfl hn rfl (q_lss rfl rfl rfl) ?_
    refine run_nil ?_
    refine aend_then ?_
    refine awp_seq ?_
    refine awp_cond rfl (fun hb1 => ?_) (fun hb1 => ?_)
    · try simp only [decide_eq_true_eq, decide_eq_false_iff_not, Bool.and_eq_true, Bool.or_eq_true, Bool.and_eq_false_iff, Bool.or_eq_false_iff, Bool.not_eq_true', Bool.not_eq_false', beq_iff_eq, bne_iff_ne, ne_eq, beq_eq_false_iff_ne, bne_eq_false_iff_eq, Int.not_lt, Int.not_le] at hb1
      have hlt : i < r.entries.length := by simpa using hb1
      obtain ⟨e, he⟩ := ex_get hlt
      obtain ⟨t, ht⟩ := ex_get (l := l) (i := i) (by omega)
      rw [drop_of he, drop_of ht] at hF; simp only [datedF] at hF
      refine awp_skip ?_
      refine aend_then ?_
      refine awp_seq ?_
      refine awp_block ?_
      refine awp_seq ?_
      refine awp_region ?_
      refine sq rfl rfl hn rfl (q_move rfl rfl) ?_
      refine sq rfl rfl hn rfl (q_index rfl rfl rfl Try.underlying32 sz95 rfl (mget he)) ?_
      refine sq rfl rfl hn rfl (q_loadpA rfl rfl Try.underlying95 rfl sz95 rfl rfl seesF0) ?_
      refine stepW (s_alloc 6 rfl rfl rfl (nb hn rfl) zr95 rfl rfl) fun b6 => ?_
      refine sq rfl rfl hn rfl (q_assign rfl rfl) ?_
      refine stepW (s_store rfl rfl rfl rfl rfl rfl (id := 6) rfl sz95 rfl (Nat.le_of_ble_eq_true rfl) rfl trivial) fun _ => ?_
      refine run_nil ?_
      refine aend_then ?_
      refine awp_seq ?_
      refine d_start (W := fun b => b ≠ b6) fmo ?_
      refine d1q (i := 0) rfl (by kernel_rfl) (fun _ _ _ _ h => h) rfl rfl hn rfl (q_move rfl rfl) ?_
      refine d1q (i := 1) rfl (by kernel_rfl) (fun _ _ _ _ h => h) rfl rfl hn rfl (q_move rfl rfl) ?_
      refine d1q (i := 2) rfl (by kernel_rfl) (fun _ _ _ _ h => h) rfl rfl hn rfl (q_index rfl rfl rfl Try.underlying22 sz3 rfl (mget ht)) ?_
      refine d1q (i := 3) rfl (by kernel_rfl) (fun _ _ _ _ h => h) rfl rfl hn rfl (q_loadp rfl rfl Try.underlying3 rfl seesFA) ?_
      refine d1q (i := 4) rfl (by kernel_rfl) (fun _ _ _ _ h => h) rfl rfl hn rfl (q_fieldAddr rfl rfl Try.underlying95 rfl sz45) ?_
      refine d1q (i := 5) rfl (by kernel_rfl) (fun _ _ _ _ h => h) rfl rfl hn rfl (q_fieldAddr rfl rfl Try.underlying45 rfl sz3) ?_
      refine d1q (i := 6) rfl (by kernel_rfl) (fun _ _ _ _ h => h) rfl rfl hn rfl (q_load rfl rfl (id := 6) rfl Try.underlying3 rfl rfl (seesA (by simp))) ?_
      refine d1q (i := 7) rfl (by kernel_rfl) (fun _ _ _ _ h => h) rfl rfl hn rfl (q_fieldAddr rfl rfl Try.underlying95 rfl sz45) ?_
      refine d1q (i := 8) rfl (by kernel_rfl) (fun _ _ _ _ h => h) rfl rfl hn rfl (q_fieldAddr rfl rfl Try.underlying45 rfl sz3) ?_
      refine d1q (i := 9) rfl (by kernel_rfl) (fun _ _ _ _ h => h) rfl rfl hn rfl (q_load rfl rfl (id := 6) rfl Try.underlying3 rfl rfl (seesA (by simp))) ?_
      refine d1_of_d2 ?_
      refine d2_one (i := 10) (by kernel_rfl) rfl (s_call [] (fun _ => within_ok _ _ _) rfl (guard_none rfl) rfl (nb hn rfl) (fun _ => trivial) rfl rfl (.refl _)) fun _ => ?_
      refine d2_of_d1 ?_
      refine d1q (i := 11) rfl (by kernel_rfl) (fun _ _ _ _ h => h) rfl rfl hn rfl (q_not rfl rfl) ?_
      refine d1_of_d2 ?_
      refine d2_done (by kernel_rfl) ?_
      refine aend_then ?_
      refine awp_cond rfl (fun hb2 => ?_) (fun hb2 => ?_)
      · skip
        refine awp_seq ?_
        refine awp_region ?_
        refine sq rfl rfl hn rfl (q_assign rfl rfl) ?_
        refine run_nil ?_
        refine aend_then ?_
        refine awp_ret ?_
        refine aend_block_ret ?_
        refine aend_then_ret ?_
        refine aend_then_ret ?_
        refine aend_block_ret ?_
        refine aend_then_ret ?_
        refine ret_eq (ret_1 (.inl rfl) hl rfl (.tmp rfl)) ?_
        rw [hF, notT hb2]; rfl
      · skip
        refine awp_skip ?_
        refine aend_block ?_
        refine aend_then ?_
        refine awp_region ?_
        refine sq rfl rfl hn rfl (q_add rfl rfl rfl (r := ((i + 1 : Nat) : Int)) (i64w (by omega) (by omega))) ?_
        refine sq rfl rfl hn rfl (q_move rfl rfl) ?_
        refine run_nil ?_
        exact aend_round_on ⟨i + 1, by omega, by rw [hF, notF hb2]; rfl⟩ ⟨.inl rfl, holdT_anys _⟩ (holdR_gones _) (by simp only; omega) (by repeat (first | exact kr _ | refine kc rfl ?_)) (by repeat (first | exact kr _ | refine kc rfl ?_))
    · try simp only [decide_eq_true_eq, decide_eq_false_iff_not, Bool.and_eq_true, Bool.or_eq_true, Bool.and_eq_false_iff, Bool.or_eq_false_iff, Bool.not_eq_true', Bool.not_eq_false', beq_iff_eq, bne_iff_ne, ne_eq, beq_eq_false_iff_ne, bne_eq_false_iff_eq, Int.not_lt, Int.not_le] at hb1
      refine awp_exit ?_
      refine aend_then_exit ?_
      refine aend_then_exit ?_
      refine aend_block_exit ?_
      refine aend_then ?_
      refine awp_seq ?_
      refine awp_region ?_
      refine sq rfl rfl hn rfl (q_assign rfl rfl) ?_
      refine run_nil ?_
      refine aend_then ?_
      refine awp_ret ?_
      refine ret_eq (ret_1 (.inl rfl) hl rfl (.tmp rfl)) ?_
      have e : i = r.entries.length := by simp only [List.length_map] at hb1; omega
      subst e; rw [hF, ← hl5, List.drop_length, hl5, List.drop_length]; rfl
def seenB (n : Int) (p : List Int) (s : Sight5) : Bool := (s.day != n) || (p.getD s.sheet.toNat 0 == s.house)
theorem dropD {p : List Int} {k : Nat} {x : Int} (h : p[k]? = some x) : (p.map intD).drop (k * 1) = intD x :: (p.map intD).drop (k + 1) := by
  rw [Nat.mul_one]
  exact drop_of (mget h)
theorem seen1_ok (n : Int) (p : List Int) (s : Sight5) (hp : p.length = 4) (h0 : 0 ≤ s.sheet) (h4 : s.sheet < 4) : PureAt Try.prog 101 [.agg (sightE s), .ptr [intD n], .ptr (p.map intD)] (.bool (seenB n p s)) := by
  refine PureAt.of_awp Try.func101 rfl (by kernel_rfl) (Nat.le_of_ble_eq_true rfl) fun Γ hn hl => ?_
  refine awp_seq ?_
  refine awp_region ?_
  refine stepW (s_box 3 rfl rfl rfl (nb hn rfl) rfl rfl) fun b3 => ?_
  refine sq rfl rfl hn rfl (q_assign rfl rfl) ?_
  refine run_nil ?_
  refine aend_then ?_
  refine awp_seq ?_
  refine d_start (W := fun b => b ≠ b3) fmo ?_
  refine d1q (i := 0) rfl (by kernel_rfl) (fun _ _ _ _ h => h) rfl rfl hn rfl (q_fieldAddr rfl rfl Try.underlying92 rfl sz3) ?_
  refine d1q (i := 1) rfl (by kernel_rfl) (fun _ _ _ _ h => h) rfl rfl hn rfl (q_load rfl rfl (id := 3) rfl Try.underlying3 rfl rfl (seesA (by simp))) ?_
  refine d1q (i := 2) rfl (by kernel_rfl) (fun _ _ _ _ h => h) rfl rfl hn rfl (q_loadp rfl rfl Try.underlying3 rfl seesFA) ?_
  refine d1q (i := 3) rfl (by kernel_rfl) (fun _ _ _ _ h => h) rfl rfl hn rfl (q_neq rfl rfl rfl) ?_
  refine d1q (i := 4) rfl (by kernel_rfl) (fun _ _ _ _ h => h) rfl rfl hn rfl (q_move rfl rfl) ?_
  refine d1g (i := 5) [] rfl (by kernel_rfl) (fun _ _ _ _ h => h) (guard_some rfl rfl rfl) rfl hn rfl (fun hc => trivial) (fun hc => q_fieldAddr rfl rfl Try.underlying92 rfl sz3) ?_
  refine d1g (i := 6) [(10, _)] rfl (by kernel_rfl) (fun _ _ _ _ h => h) (guard_some rfl rfl rfl) rfl hn rfl (fun hc => ⟨⟨_, rfl, hc⟩, trivial⟩) (fun hc => q_load rfl rfl (id := 3) rfl Try.underlying3 rfl rfl (seesA (by simp))) ?_
  refine d1g (i := 7) [(11, _)] rfl (by kernel_rfl) (fun _ _ _ _ h => h) (guard_some rfl rfl rfl) rfl hn rfl (fun hc => ⟨⟨_, rfl, hc⟩, trivial⟩) (fun hc => q_indexP (i := s.sheet.toNat) rfl rfl rfl Try.underlying103 sz3 (by omega) (by omega) (dropD (getD_some (by omega)))) ?_
  refine d1g (i := 8) [(12, _)] rfl (by kernel_rfl) (fun _ _ _ _ h => h) (guard_some rfl rfl rfl) rfl hn rfl (fun hc => ⟨⟨_, rfl, hc⟩, trivial⟩) (fun hc => q_loadp rfl rfl Try.underlying3 rfl seesFA) ?_
  refine d1g (i := 9) [] rfl (by kernel_rfl) (fun _ _ _ _ h => h) (guard_some rfl rfl rfl) rfl hn rfl (fun hc => trivial) (fun hc => q_fieldAddr rfl rfl Try.underlying92 rfl sz3) ?_
  refine d1g (i := 10) [(14, _)] rfl (by kernel_rfl) (fun _ _ _ _ h => h) (guard_some rfl rfl rfl) rfl hn rfl (fun hc => ⟨⟨_, rfl, hc⟩, trivial⟩) (fun hc => q_load rfl rfl (id := 3) rfl Try.underlying3 rfl rfl (seesA (by simp))) ?_
  refine d1g (i := 11) [(13, _), (15, _)] rfl (by kernel_rfl) (fun _ _ _ _ h => h) (guard_some rfl rfl rfl) rfl hn rfl (fun hc => ⟨⟨_, rfl, hc⟩, ⟨_, rfl, hc⟩, trivial⟩) (fun hc => q_eql rfl rfl rfl) ?_
  refine d1q (i := 12) rfl (by kernel_rfl) (fun _ _ _ _ h => h) rfl rfl hn rfl (q_or rfl rfl rfl (by intro hB; first | (rw [hB]; rfl) | (rw [hB, hc]; rfl) | simp_all)) ?_
  refine d1q (i := 13) rfl (by kernel_rfl) (fun _ _ _ _ h => h) rfl rfl hn rfl (q_assign rfl rfl) ?_
  refine d1_of_d2 ?_
  refine d2_done (by kernel_rfl) ?_
  refine aend_then ?_
  refine awp_ret ?_
  exact ret_1 (.inl rfl) hl rfl (.tmp rfl)
theorem seen_ok (r : Reg) (n : Int) (p : List Int) (v : Valid r) (hp : p.length = 4) : PureAt Try.prog 81 [regD r, .int .i64 n, .agg (p.map intD)] (.bool (r.sights.all (seenB n p))) := by
  refine PureAt.of_awp Try.func81 rfl (by kernel_rfl) (Nat.le_of_ble_eq_true rfl) fun Γ hn hl => ?_
  have hs4 := v.s4
  refine awp_seq ?_
  refine awp_region ?_
  refine stepW (s_box 3 rfl rfl rfl (nb hn rfl) rfl rfl) fun b3 => ?_
  refine stepW (s_box 4 rfl rfl rfl (nb hn rfl) rfl rfl) fun b4 => ?_
  refine stepW (s_box 5 rfl rfl rfl (nb hn rfl) rfl rfl) fun b5 => ?_
  refine sq rfl rfl hn rfl (q_assign rfl rfl) ?_
  refine run_nil ?_
  refine aend_then ?_
  refine awp_seq ?_
  refine awp_region ?_
  refine sq rfl rfl hn rfl (q_fieldAddr rfl rfl Try.underlying35 rfl sz33) ?_
  refine sq rfl rfl hn rfl (q_load rfl rfl (id := 3) rfl Try.underlying33 rfl rfl sees0) ?_
  refine gh_run (g_freeze (t := 4) 4 rfl (nb hn rfl) rfl rfl trivial) ?_
  refine gh_run (g_freeze (t := 5) 5 rfl (nb hn rfl) rfl (allD_d _) trivial) ?_
  refine sq rfl rfl hn rfl (q_makeFuncd rfl rfl rfl) ?_
  refine stepW (s_call [] (fun _ => all_sight r.sights (seenB n p) 101 [] [.ptr [intD n], .ptr (p.map intD)] (fun s hs => have := v.si s hs; seen1_ok n p s hp (by omega) (by omega))) rfl (guard_none rfl) rfl (nb hn rfl) (fun _ => trivial) rfl rfl (.refl _)) fun _ => ?_
  refine sq rfl rfl hn rfl (q_assign rfl rfl) ?_
  refine run_nil ?_
  refine aend_then ?_
  refine awp_ret ?_
  exact ret_1 (.inl rfl) hl rfl (.tmp rfl)
def playE (r : Reg) (l : List Int) : Int := bif checkE r != 0 then checkE r else bif !(datedF r.entries l) then 2 else bif !((playDays r l).isSome) then 11 else 0
/-- For each sheet its house at the end of each day. -/
def playOut (r : Reg) (ds : List Nat) : List (List Int) := (List.range r.start.length).map fun s => ds.map fun d => (placesA r d).getD s 0
def playL (r : Reg) (l : List Int) : List (List Int) := bif playE r l == 0 then playOut r ((playDays r l).getD []) else []
theorem playL_bad {r : Reg} {l : List Int} (h : checkE r ≠ 0) : playL r l = [] := by
  have h1 : (checkE r != 0) = true := by simpa using h
  have h2 : (checkE r == 0) = false := by simpa using h
  simp only [playL, playE, h1, cond_true, h2, cond_false]
theorem fill_int {x : Int} {zs : List TV} (hz : zs.length = 1) : fillTV (fun i => some (i * 1, 1)) zs [(0, .d (.int .i64 x))] = some [.d (.int .i64 x)] := by
  simp only [fillTV, TV.cells, hz, TV.flat]
  rw [List.drop_of_length_le (by omega)]
  simp [Nat.beq, Nat.ble, TV.one, D.one]
theorem fill_d {x : D} {zs : List TV} (hz : zs.length = 1) (hx : TV.cells (.d x) = [.d x]) (h1 : x.one = true) (hf : TV.flat (.d x) = true) : fillTV (fun i => some (i * 1, 1)) zs [(0, .d x)] = some [.d x] := by
  simp only [fillTV, hx, hz, hf]
  rw [List.drop_of_length_le (by omega)]
  simp [Nat.beq, Nat.ble]
theorem Play_ok (r : Reg) (l : List Int) : PureAt Try.prog 43 [regD r, ints l] (.tup [.slice 1 ((playL r l).map fun x => [ints x]), .int .i64 (playE r l)]) := by
  refine PureAt.of_awp Try.func43 rfl (by kernel_rfl) (Nat.le_of_ble_eq_true rfl) fun Γ hn hl => ?_
  refine awp_seq ?_
  refine awp_region ?_
  refine stepW (s_box 2 rfl rfl rfl (nb hn rfl) rfl rfl) fun b2 => ?_
  refine sq rfl rfl hn rfl (q_assign rfl rfl) ?_
  refine sq rfl rfl hn rfl (q_assign rfl rfl) ?_
  refine run_nil ?_
  refine aend_then ?_
  refine awp_seq ?_
  refine awp_seq ?_
  refine awp_region ?_
  refine sq rfl rfl hn rfl (q_loadAd rfl rfl (id := 2) rfl Try.underlying35 rfl sz35 rfl rfl sees0) ?_
  refine stepW (s_call [] (fun _ => CheckRegister_ok _) rfl (guard_none rfl) rfl (nb hn rfl) (fun _ => trivial) rfl rfl (.refl _)) fun _ => ?_
  refine sq rfl rfl hn rfl (q_assign rfl rfl) ?_
  refine run_nil ?_
  refine aend_then ?_
  refine awp_seq ?_
  refine awp_region ?_
  refine sq rfl rfl hn rfl (q_move rfl rfl) ?_
  refine sq rfl rfl hn rfl (q_neq rfl rfl rfl) ?_
  refine run_nil ?_
  refine aend_then ?_
  refine awp_cond rfl (fun hb0 => ?_) (fun hb0 => ?_)
  · skip
    refine awp_seq ?_
    refine awp_region ?_
    refine sq rfl rfl hn rfl (q_move rfl rfl) ?_
    refine sq rfl rfl hn rfl (q_assign rfl rfl) ?_
    refine sq rfl rfl hn rfl (q_assign rfl rfl) ?_
    refine run_nil ?_
    refine aend_then ?_
    refine awp_ret ?_
    refine aend_then_ret ?_
    refine ret_le (ret_2 (.inl rfl) hl rfl (.tmp rfl) (.tmp rfl)) ?_
    rw [show playE r l = checkE r from by simp [playE, hb0], show playL r l = [] from playL_bad (by simpa using hb0)]; (first | exact DLes.refl _ | exact DLe.refl _ | (repeat (first | exact DLes.refl _ | exact DLe.refl _ | exact DLe.nil _ | refine DLes.cons ?_ ?_ | refine DLe.agg ?_ | refine DLe.tup ?_)))
  · skip
    have hv0 : checkE r = 0 := by simpa using hb0
    have v := valid_of hv0
    have hs4 := v.s4
    refine awp_skip ?_
    refine aend_then ?_
    refine awp_seq ?_
    refine awp_seq ?_
    refine awp_region ?_
    refine sq rfl rfl hn rfl (q_loadAd rfl rfl (id := 2) rfl Try.underlying35 rfl sz35 rfl rfl sees0) ?_
    refine sq rfl rfl hn rfl (q_move rfl rfl) ?_
    refine stepW (s_call [] (fun _ => dated_ok r _ v) rfl (guard_none rfl) rfl (nb hn rfl) (fun _ => trivial) rfl rfl (.refl _)) fun _ => ?_
    refine sq rfl rfl hn rfl (q_not rfl rfl) ?_
    refine run_nil ?_
    refine aend_then ?_
    refine awp_cond rfl (fun hb1 => ?_) (fun hb1 => ?_)
    · skip
      refine awp_seq ?_
      refine awp_region ?_
      refine sq rfl rfl hn rfl (q_assign rfl rfl) ?_
      refine sq rfl rfl hn rfl (q_assign rfl rfl) ?_
      refine run_nil ?_
      refine aend_then ?_
      refine awp_ret ?_
      refine aend_then_ret ?_
      refine ret_le (ret_2 (.inl rfl) hl rfl (.tmp rfl) (.tmp rfl)) ?_
      rw [show playE r l = 2 from by simp [playE, hb0, hb1], show playL r l = [] from by simp [playL, playE, hb0, hb1]]; (first | exact DLes.refl _ | exact DLe.refl _ | (repeat (first | exact DLes.refl _ | exact DLe.refl _ | exact DLe.nil _ | refine DLes.cons ?_ ?_ | refine DLe.agg ?_ | refine DLe.tup ?_)))
    · skip
      have hdt := notF hb1
      have hl5 := datedF_len hdt
      refine awp_skip ?_
      refine aend_then ?_
      refine awp_seq ?_
      refine awp_region ?_
      refine sq rfl rfl hn rfl (q_loadAd rfl rfl (id := 2) rfl Try.underlying35 rfl sz35 rfl rfl sees0) ?_
      refine sq rfl rfl hn rfl (q_move rfl rfl) ?_
      refine stepW (s_call [] (fun _ => play_ok r _ v hl5) rfl (guard_none rfl) rfl (nb hn rfl) (fun _ => trivial) rfl rfl (.refl _)) fun _ => ?_
      refine sq rfl rfl hn rfl (q_move rfl rfl) ?_
      refine sq rfl rfl hn rfl (q_extractd rfl rfl rfl) ?_
      refine sq rfl rfl hn rfl (q_extractd rfl rfl rfl) ?_
      refine sq rfl rfl hn rfl (q_assign rfl rfl) ?_
      refine sq rfl rfl hn rfl (q_assign rfl rfl) ?_
      refine run_nil ?_
      refine aend_then ?_
      refine awp_seq ?_
      refine awp_seq ?_
      refine awp_region ?_
      refine sq rfl rfl hn rfl (q_move rfl rfl) ?_
      refine sq rfl rfl hn rfl (q_not rfl rfl) ?_
      refine run_nil ?_
      refine aend_then ?_
      refine awp_cond rfl (fun hb2 => ?_) (fun hb2 => ?_)
      · skip
        refine awp_seq ?_
        refine awp_region ?_
        refine sq rfl rfl hn rfl (q_assign rfl rfl) ?_
        refine sq rfl rfl hn rfl (q_assign rfl rfl) ?_
        refine run_nil ?_
        refine aend_then ?_
        refine awp_ret ?_
        refine aend_then_ret ?_
        refine ret_le (ret_2 (.inl rfl) hl rfl (.tmp rfl) (.tmp rfl)) ?_
        rw [show playE r l = 11 from by simp [playE, hb0, hb1, hb2], show playL r l = [] from by simp [playL, playE, hb0, hb1, hb2]]; (first | exact DLes.refl _ | exact DLe.refl _ | (repeat (first | exact DLes.refl _ | exact DLe.refl _ | exact DLe.nil _ | refine DLes.cons ?_ ?_ | refine DLe.agg ?_ | refine DLe.tup ?_)))
      · skip
        have hsome := notF hb2
        obtain ⟨ds, hds⟩ := Option.isSome_iff_exists.1 hsome
        have hdl : ds.length = 10 := playDays_len hds
        rw [hds, Option.getD_some]
        refine awp_skip ?_
        refine aend_then ?_
        refine awp_seq ?_
        refine awp_region ?_
        refine sq rfl rfl hn rfl (q_assign rfl rfl) ?_
        refine run_nil ?_
        refine aend_then ?_
        refine awp_seq ?_
        refine awp_seq ?_
        refine gh_awp (g_nil (t := 9) (id := 9) 22 1 rfl (nb hn rfl)) ?_
        refine awp_region ?_
        refine sq rfl rfl hn rfl (q_fieldAddr rfl rfl Try.underlying35 rfl sz22) ?_
        refine sq rfl rfl hn rfl (q_load rfl rfl (id := 2) rfl Try.underlying22 rfl rfl sees0) ?_
        refine sq rfl rfl hn rfl (q_len rfl rfl Try.underlying22) ?_
        refine sq rfl rfl hn rfl (q_move rfl rfl) ?_
        refine run_nil ?_
        refine aend_then ?_
        refine awp_block ?_
        refine awp_loop_on (ι := { x : Nat × Value // x.1 ≤ r.start.length }) (fun x => (34, true, .d (.int .i64 (x.1.1 : Int))) :: (9, true, .val x.1.2) :: anys [35, 36, 10, 11, 37, 38, 39, 40, 41, 42, 13, 43, 44, 45, 46, 47, 48, 49, 50, 51, 52, 53, 54]) (fun x => (9, .row x.1.2 22 1 ((List.range x.1.1).map fun s => [ints (ds.map fun d => (placesA r d).getD s 0)])) :: gones [11, 13]) (fun x => r.start.length - x.1.1) ⟨(0, .slice none 0 0), by simp⟩ ⟨.inl rfl, .inl rfl, holdT_anys _⟩ ⟨.inl rfl, holdR_gones _⟩ ?_
        rintro ⟨⟨i, vv⟩, hi⟩
        dsimp only
        dsimp only at hi
        refine awp_seq ?_
        refine awp_region ?_
        refine sq rfl rfl hn rfl (q_lss rfl rfl rfl) ?_
        refine run_nil ?_
        refine aend_then ?_
        refine awp_seq ?_
        refine awp_cond rfl (fun hb3 => ?_) (fun hb3 => ?_)
        · try simp only [decide_eq_true_eq, decide_eq_false_iff_not, Bool.and_eq_true, Bool.or_eq_true, Bool.and_eq_false_iff, Bool.or_eq_false_iff, Bool.not_eq_true', Bool.not_eq_false', beq_iff_eq, bne_iff_ne, ne_eq, beq_eq_false_iff_ne, bne_eq_false_iff_eq, Int.not_lt, Int.not_le] at hb3
          have hlt : i < r.start.length := by simpa using hb3
          have hi4 : i < 4 := by omega
          refine awp_skip ?_
          refine aend_then ?_
          refine awp_seq ?_
          refine awp_block ?_
          refine awp_seq ?_
          refine awp_region ?_
          refine sq rfl rfl hn rfl (q_move rfl rfl) ?_
          refine sq rfl rfl hn rfl (q_assign rfl rfl) ?_
          refine run_nil ?_
          refine aend_then ?_
          refine awp_seq ?_
          refine awp_region ?_
          refine sq rfl rfl hn rfl (q_assign rfl rfl) ?_
          refine run_nil ?_
          refine aend_then ?_
          refine awp_seq ?_
          refine awp_seq ?_
          refine gh_awp (g_nil (t := 11) (id := 11) 3 1 rfl (nb hn rfl)) ?_
          refine awp_region ?_
          refine sq rfl rfl hn rfl (q_move rfl rfl) ?_
          refine sq rfl rfl hn rfl (q_len rfl rfl Try.underlying133) ?_
          refine sq rfl rfl hn rfl (q_move rfl rfl) ?_
          refine run_nil ?_
          refine aend_then ?_
          refine awp_block ?_
          refine awp_loop_on (ι := { y : Nat × Value // y.1 ≤ ds.length }) (fun y => (39, true, .d (.int .i64 (y.1.1 : Int))) :: (11, true, .val y.1.2) :: anys [40, 41, 42, 13, 43, 44, 45, 46, 47, 48, 49]) (fun y => (11, .row y.1.2 3 1 (((ds.take y.1.1).map fun d => (placesA r d).getD i 0).map intE)) :: gones [13]) (fun y => ds.length - y.1.1) ⟨(0, .slice none 0 0), by simp⟩ ⟨.inl rfl, .inl rfl, holdT_anys _⟩ ⟨.inl rfl, holdR_gones _⟩ ?_
          rintro ⟨⟨k, vw⟩, hk⟩
          dsimp only
          dsimp only at hk
          refine awp_seq ?_
          refine awp_region ?_
          refine sq rfl rfl hn rfl (q_lss rfl rfl rfl) ?_
          refine run_nil ?_
          refine aend_then ?_
          refine awp_seq ?_
          refine awp_cond rfl (fun hb4 => ?_) (fun hb4 => ?_)
          · try simp only [decide_eq_true_eq, decide_eq_false_iff_not, Bool.and_eq_true, Bool.or_eq_true, Bool.and_eq_false_iff, Bool.or_eq_false_iff, Bool.not_eq_true', Bool.not_eq_false', beq_iff_eq, bne_iff_ne, ne_eq, beq_eq_false_iff_ne, bne_eq_false_iff_eq, Int.not_lt, Int.not_le] at hb4
            have hlt2 : k < ds.length := by simpa using hb4
            obtain ⟨d, hd⟩ := ex_get hlt2
            refine awp_skip ?_
            refine aend_then ?_
            refine awp_seq ?_
            refine awp_block ?_
            refine awp_seq ?_
            refine awp_region ?_
            refine sq rfl rfl hn rfl (q_index rfl rfl rfl Try.underlying133 sz103 rfl (mget hd)) ?_
            refine sq rfl rfl hn rfl (q_loadpA rfl rfl Try.underlying103 rfl sz103 (List.take_of_length_le (by rw [playRow_len]; omega)) (playRow_len r d) seesF0) ?_
            refine stepW (s_alloc 13 rfl rfl rfl (nb hn rfl) zr103 rfl rfl) fun b13 => ?_
            refine stepW (s_store rfl rfl rfl rfl rfl rfl (id := 13) rfl sz103 (by rw [show (TV.d (D.agg (playRow r d))).cells = (playRow r d).map .d from rfl, List.length_map, playRow_len]) (Nat.le_of_ble_eq_true rfl) (show _ = (playRow r d).map .d from by simp [TV.cells, Value.cells]) trivial) fun _ => ?_
            refine run_nil ?_
            refine aend_then ?_
            refine awp_region ?_
            refine sq rfl rfl hn rfl (q_move rfl rfl) ?_
            refine sq rfl rfl hn rfl (q_move rfl rfl) ?_
            refine sq rfl rfl hn rfl (q_indexA rfl rfl rfl Try.underlying103 sz3 rfl (by omega)) ?_
            refine sq rfl rfl hn rfl (q_load rfl rfl (id := 13) rfl Try.underlying3 rfl (at1 (f := TV.d) (mget (f := intD) (getD_some (l := placesA r d) (by rw [placesA_len]; omega)))) sees0) ?_
            refine stepW (s_buildSlice rfl rfl rfl (nb hn rfl) Try.underlying22 sz3 zr3 rfl rfl rfl (show _ = [.d (.int .i64 0)] from by kernel_rfl) (by kernel_rfl) rfl (fill_int (by kernel_rfl)) rfl rfl rfl) fun _ => ?_
            refine stepW (s_append (id := 11) rfl rfl rfl (nb hn rfl) elt22 trivial rfl rfl rfl (by simp [List.length_take, chunk]; omega) (by simp [List.length_take, chunk]; omega) (fun b hb => trivial)) fun v48 => ?_
            refine sq rfl rfl hn rfl (q_assign rfl rfl) ?_
            refine run_nil ?_
            refine aend_block ?_
            refine aend_then ?_
            refine awp_region ?_
            refine sq rfl rfl hn rfl (q_add rfl rfl rfl (r := ((k + 1 : Nat) : Int)) (i64w (by omega) (by omega))) ?_
            refine sq rfl rfl hn rfl (q_move rfl rfl) ?_
            refine run_nil ?_
            exact aend_round_on ⟨(k + 1, v48), by simp only; omega⟩ ⟨.inl rfl, .inl rfl, holdT_anys _⟩ ⟨.inl (by rw [List.take_add_one, hd, List.map_append, List.map_append]; rfl), holdR_gones _⟩ (by simp only; omega) (by repeat (first | exact kr _ | refine kc rfl ?_)) (by repeat (first | exact kr _ | refine kc rfl ?_))
          · try simp only [decide_eq_true_eq, decide_eq_false_iff_not, Bool.and_eq_true, Bool.or_eq_true, Bool.and_eq_false_iff, Bool.or_eq_false_iff, Bool.not_eq_true', Bool.not_eq_false', beq_iff_eq, bne_iff_ne, ne_eq, beq_eq_false_iff_ne, bne_eq_false_iff_eq, Int.not_lt, Int.not_le] at hb4
            have hke : k = ds.length := by simp only [List.length_map] at hb4; omega
            subst hke; rw [List.take_length]
            refine awp_exit ?_
            refine aend_then_exit ?_
            refine aend_then_exit ?_
            refine aend_block_exit ?_
            refine aend_then ?_
            refine awp_region ?_
            refine sq rfl rfl hn rfl (q_move rfl rfl) ?_
            refine sq rfl rfl hn rfl (q_move rfl rfl) ?_
            refine gh_run (g_row (t := 51) (id := 11) rfl rfl) ?_
            refine stepW (s_buildSlice rfl rfl rfl (nb hn rfl) Try.underlying77 sz22 zr22 rfl rfl rfl (show _ = [.d .nil] from by kernel_rfl) (by kernel_rfl) rfl (fill_d (by kernel_rfl) rfl rfl rfl) rfl rfl rfl) fun _ => ?_
            refine stepW (s_append (id := 9) rfl rfl rfl (nb hn rfl) elt77 trivial rfl rfl rfl (by simp [chunk]; omega) (by simp [chunk]; omega) (fun b hb => trivial)) fun v53 => ?_
            refine sq rfl rfl hn rfl (q_assign rfl rfl) ?_
            refine run_nil ?_
            refine aend_block ?_
            refine aend_then ?_
            refine awp_region ?_
            refine sq rfl rfl hn rfl (q_add rfl rfl rfl (r := ((i + 1 : Nat) : Int)) (i64w (by omega) (by omega))) ?_
            refine sq rfl rfl hn rfl (q_move rfl rfl) ?_
            refine run_nil ?_
            exact aend_round_on ⟨(i + 1, v53), by simp only; omega⟩ ⟨.inl rfl, .inl rfl, holdT_anys _⟩ ⟨.inl (by rw [List.range_succ, List.map_append]; rfl), holdR_gones _⟩ (by simp only; omega) (by repeat (first | exact kr _ | refine kc rfl ?_)) (by repeat (first | exact kr _ | refine kc rfl ?_))
        · try simp only [decide_eq_true_eq, decide_eq_false_iff_not, Bool.and_eq_true, Bool.or_eq_true, Bool.and_eq_false_iff, Bool.or_eq_false_iff, Bool.not_eq_true', Bool.not_eq_false', beq_iff_eq, bne_iff_ne, ne_eq, beq_eq_false_iff_ne, bne_eq_false_iff_eq, Int.not_lt, Int.not_le] at hb3
          have hie : i = r.start.length := by simp only [List.length_map] at hb3; omega
          subst hie
          refine awp_exit ?_
          refine aend_then_exit ?_
          refine aend_then_exit ?_
          refine aend_block_exit ?_
          refine aend_then ?_
          refine awp_seq ?_
          refine awp_region ?_
          refine sq rfl rfl hn rfl (q_move rfl rfl) ?_
          refine sq rfl rfl hn rfl (q_assign rfl rfl) ?_
          refine sq rfl rfl hn rfl (q_assign rfl rfl) ?_
          refine run_nil ?_
          refine aend_then ?_
          refine awp_ret ?_
          refine gh_end (g_row (t := 4) (id := 9) rfl rfl) ?_
          refine ret_eq (ret_2 (.inl rfl) hl rfl (.tmp rfl) (.tmp rfl)) ?_
          rw [show playE r l = 0 from by simp [playE, hb0, hb1, hsome], show playL r l = playOut r ds from by simp [playL, playE, hb0, hb1, hsome, hds]]; simp [playOut]
def seenAll (r : Reg) : Nat → List Nat → Bool
  | _, [] => true
  | n, d :: ds => r.sights.all (seenB n (placesA r d)) && seenAll r (n + 1) ds
def proveB (r : Reg) (l : List Int) : Bool := (checkE r == 0) && datedF r.entries l && (playDays r l).isSome && seenAll r 0 ((playDays r l).getD [])
theorem ProveTruth_ok (r : Reg) (l : List Int) : PureAt Try.prog 45 [regD r, ints l] (.bool (proveB r l)) := by
  refine PureAt.of_awp Try.func45 rfl (by kernel_rfl) (Nat.le_of_ble_eq_true rfl) fun Γ hn hl => ?_
  refine awp_seq ?_
  refine awp_region ?_
  refine stepW (s_box 2 rfl rfl rfl (nb hn rfl) rfl rfl) fun b2 => ?_
  refine sq rfl rfl hn rfl (q_assign rfl rfl) ?_
  refine run_nil ?_
  refine aend_then ?_
  refine awp_seq ?_
  refine awp_seq ?_
  refine awp_region ?_
  refine sq rfl rfl hn rfl (q_loadAd rfl rfl (id := 2) rfl Try.underlying35 rfl sz35 rfl rfl sees0) ?_
  refine stepW (s_call [] (fun _ => CheckRegister_ok _) rfl (guard_none rfl) rfl (nb hn rfl) (fun _ => trivial) rfl rfl (.refl _)) fun _ => ?_
  refine sq rfl rfl hn rfl (q_neq rfl rfl rfl) ?_
  refine sq rfl rfl hn rfl (q_move rfl rfl) ?_
  refine stepG [] (guard_some rfl rfl rfl) rfl (nb hn rfl) (fun hc => trivial) (fun hc => q_loadAd rfl rfl (id := 2) rfl Try.underlying35 rfl sz35 rfl rfl sees0) ?_
  refine stepG [] (guard_some rfl rfl rfl) rfl (nb hn rfl) (fun hc => trivial) (fun hc => q_move rfl rfl) ?_
  refine stepW (s_call [(13, _), (14, _)] (fun hc => dated_ok r l (valid_of (by simpa using hc))) rfl (guard_some rfl rfl rfl) rfl (nb hn rfl) (fun hc => ⟨⟨_, rfl, hc⟩, ⟨_, rfl, hc⟩, trivial⟩) rfl rfl (.refl _)) fun _ => ?_
  refine stepG [(15, _)] (guard_some rfl rfl rfl) rfl (nb hn rfl) (fun hc => ⟨⟨_, rfl, hc⟩, trivial⟩) (fun hc => q_not rfl rfl) ?_
  refine sq rfl rfl hn rfl (q_or rfl rfl rfl (by intro hB; first | (rw [hB]; rfl) | (rw [hB, hc]; rfl) | simp_all)) ?_
  refine run_nil ?_
  refine aend_then ?_
  refine awp_cond rfl (fun hb0 => ?_) (fun hb0 => ?_)
  · skip
    refine awp_seq ?_
    refine awp_region ?_
    refine sq rfl rfl hn rfl (q_assign rfl rfl) ?_
    refine run_nil ?_
    refine aend_then ?_
    refine awp_ret ?_
    refine aend_then_ret ?_
    refine ret_eq (ret_1 (.inl rfl) hl rfl (.tmp rfl)) ?_
    rw [show proveB r l = false from by simp [proveB]; simp at hb0; intro h1 h2; simp [h1, h2] at hb0]
  · skip
    have hv0 : checkE r = 0 := by simp at hb0; omega
    have v := valid_of hv0
    have hs4 := v.s4
    have hdt : datedF r.entries l = true := by simp [hv0] at hb0; exact hb0
    have hl5 := datedF_len hdt
    have hdl : ((playDays r l).getD []).length ≤ 10 := playDays_le r l
    generalize hds : (playDays r l).getD [] = ds at hdl
    refine awp_skip ?_
    refine aend_then ?_
    refine awp_seq ?_
    refine awp_region ?_
    refine sq rfl rfl hn rfl (q_loadAd rfl rfl (id := 2) rfl Try.underlying35 rfl sz35 rfl rfl sees0) ?_
    refine sq rfl rfl hn rfl (q_move rfl rfl) ?_
    refine stepW (s_call [] (fun _ => hds ▸ play_ok r l v hl5) rfl (guard_none rfl) rfl (nb hn rfl) (fun _ => trivial) rfl rfl (.refl _)) fun _ => ?_
    refine sq rfl rfl hn rfl (q_move rfl rfl) ?_
    refine sq rfl rfl hn rfl (q_extractd rfl rfl rfl) ?_
    refine sq rfl rfl hn rfl (q_extractd rfl rfl rfl) ?_
    refine sq rfl rfl hn rfl (q_assign rfl rfl) ?_
    refine sq rfl rfl hn rfl (q_assign rfl rfl) ?_
    refine run_nil ?_
    refine aend_then ?_
    refine awp_seq ?_
    refine awp_seq ?_
    refine awp_region ?_
    refine sq rfl rfl hn rfl (q_move rfl rfl) ?_
    refine sq rfl rfl hn rfl (q_len rfl rfl Try.underlying133) ?_
    refine sq rfl rfl hn rfl (q_move rfl rfl) ?_
    refine run_nil ?_
    refine aend_then ?_
    refine awp_block ?_
    refine awp_loop_on (ι := { x : Nat × Bool // x.1 ≤ ds.length ∧ ((playDays r l).isSome && seenAll r 0 ds) = (x.2 && seenAll r x.1 (ds.drop x.1)) }) (fun x => (26, true, .d (.int .i64 (x.1.1 : Int))) :: (6, true, .d (.bool x.1.2)) :: anys [27, 28, 29, 30, 8, 7, 31, 32, 33, 34, 35, 36, 37, 38]) (fun x => gones [8]) (fun x => ds.length - x.1.1) ⟨(0, (playDays r l).isSome), by simp⟩ ⟨.inl rfl, .inl rfl, holdT_anys _⟩ (holdR_gones _) ?_
    rintro ⟨⟨i, b⟩, hi, hF⟩
    dsimp only
    dsimp only at hi hF
    refine awp_seq ?_
    refine awp_region ?_
    refine sq rfl rfl hn rfl (q_lss rfl rfl rfl) ?_
    refine run_nil ?_
    refine aend_then ?_
    refine awp_seq ?_
    refine awp_cond rfl (fun hb1 => ?_) (fun hb1 => ?_)
    · try simp only [decide_eq_true_eq, decide_eq_false_iff_not, Bool.and_eq_true, Bool.or_eq_true, Bool.and_eq_false_iff, Bool.or_eq_false_iff, Bool.not_eq_true', Bool.not_eq_false', beq_iff_eq, bne_iff_ne, ne_eq, beq_eq_false_iff_ne, bne_eq_false_iff_eq, Int.not_lt, Int.not_le] at hb1
      have hlt : i < ds.length := by simpa using hb1
      obtain ⟨d, hd⟩ := ex_get hlt
      rw [drop_of hd] at hF; simp only [seenAll] at hF
      refine awp_skip ?_
      refine aend_then ?_
      refine awp_seq ?_
      refine awp_block ?_
      refine awp_seq ?_
      refine awp_region ?_
      refine sq rfl rfl hn rfl (q_move rfl rfl) ?_
      refine sq rfl rfl hn rfl (q_index rfl rfl rfl Try.underlying133 sz103 rfl (mget hd)) ?_
      refine sq rfl rfl hn rfl (q_loadpA rfl rfl Try.underlying103 rfl sz103 (List.take_of_length_le (by rw [playRow_len]; omega)) (playRow_len r d) seesF0) ?_
      refine stepW (s_alloc 8 rfl rfl rfl (nb hn rfl) zr103 rfl rfl) fun b8 => ?_
      refine sq rfl rfl hn rfl (q_assign rfl rfl) ?_
      refine stepW (s_store rfl rfl rfl rfl rfl rfl (id := 8) rfl sz103 (by rw [show (TV.d (D.agg (playRow r d))).cells = (playRow r d).map .d from rfl, List.length_map, playRow_len]) (Nat.le_of_ble_eq_true rfl) (show _ = (playRow r d).map .d from by simp [TV.cells, Value.cells]) trivial) fun _ => ?_
      refine run_nil ?_
      refine aend_then ?_
      refine awp_region ?_
      refine sq rfl rfl hn rfl (q_move rfl rfl) ?_
      refine sq rfl rfl hn rfl (q_move rfl rfl) ?_
      refine stepG [] (guard_some rfl rfl rfl) rfl (nb hn rfl) (fun hc => trivial) (fun hc => q_loadAd rfl rfl (id := 2) rfl Try.underlying35 rfl sz35 rfl rfl sees0) ?_
      refine stepG [] (guard_some rfl rfl rfl) rfl (nb hn rfl) (fun hc => trivial) (fun hc => q_move rfl rfl) ?_
      refine stepG [] (guard_some rfl rfl rfl) rfl (nb hn rfl) (fun hc => trivial) (fun hc => q_loadAd rfl rfl (id := 8) rfl Try.underlying103 rfl sz103 (by rw [List.drop_zero, List.take_of_length_le (by rw [List.length_map, playRow_len]; omega)]; exact allD_d _) (playRow_len r d) sees0) ?_
      refine stepW (s_call [(33, _), (34, _), (35, _)] (fun hc => seen_ok r _ _ v (placesA_len _ _)) rfl (guard_some rfl rfl rfl) rfl (nb hn rfl) (fun hc => ⟨⟨_, rfl, hc⟩, ⟨_, rfl, hc⟩, ⟨_, rfl, hc⟩, trivial⟩) rfl rfl (.refl _)) fun _ => ?_
      refine sq rfl rfl hn rfl (q_and rfl rfl rfl (by intro hB; first | (rw [hB]; rfl) | (rw [hB, hc]; rfl) | simp_all)) ?_
      refine sq rfl rfl hn rfl (q_assign rfl rfl) ?_
      refine run_nil ?_
      refine aend_block ?_
      refine aend_then ?_
      refine awp_region ?_
      refine sq rfl rfl hn rfl (q_add rfl rfl rfl (r := ((i + 1 : Nat) : Int)) (i64w (by omega) (by omega))) ?_
      refine sq rfl rfl hn rfl (q_move rfl rfl) ?_
      refine run_nil ?_
      exact aend_round_on ⟨(i + 1, b && r.sights.all (seenB i (placesA r d))), by simp only; omega, by rw [hF]; simp [Bool.and_assoc]⟩ ⟨.inl rfl, .inl rfl, holdT_anys _⟩ (holdR_gones _) (by simp only; omega) (by repeat (first | exact kr _ | refine kc rfl ?_)) (by repeat (first | exact kr _ | refine kc rfl ?_))
    · try simp only [decide_eq_true_eq, decide_eq_false_iff_not, Bool.and_eq_true, Bool.or_eq_true, Bool.and_eq_false_iff, Bool.or_eq_false_iff, Bool.not_eq_true', Bool.not_eq_false', beq_iff_eq, bne_iff_ne, ne_eq, beq_eq_false_iff_ne, bne_eq_false_iff_eq, Int.not_lt, Int.not_le] at hb1
      refine awp_exit ?_
      refine aend_then_exit ?_
      refine aend_then_exit ?_
      refine aend_block_exit ?_
      refine aend_then ?_
      refine awp_seq ?_
      refine awp_region ?_
      refine sq rfl rfl hn rfl (q_move rfl rfl) ?_
      refine sq rfl rfl hn rfl (q_assign rfl rfl) ?_
      refine run_nil ?_
      refine aend_then ?_
      refine awp_ret ?_
      refine ret_eq (ret_1 (.inl rfl) hl rfl (.tmp rfl)) ?_
      have e : i = ds.length := by simp only [List.length_map] at hb1; omega
      subst e; rw [List.drop_length] at hF; simp only [seenAll, Bool.and_true] at hF
      simp only [proveB, hv0, hdt, hds, hF, beq_self_eq_true, Bool.true_and]
end Go.Proofs.Ytnbmmopjkkofoaa
namespace Go.Proofs.Ytnbmmopjkkofoaa
open Go.RowKit
set_option maxRecDepth 20000
set_option linter.all false
def beforeB : List Int → List Int → Bool
  | [], [] => false
  | [], _ :: _ => true
  | _ :: _, [] => false
  | a :: as', b :: bs => bif a != b then decide (a < b) else beforeB as' bs
def shorterB (a b : List Int) : Bool := decide ((a.length : Int) < b.length) || (((a.length : Int) == b.length) && beforeB a b)
def sameB (a b : List Int) : Bool := ((a.length : Int) == b.length) && !(beforeB a b) && !(beforeB b a)
theorem before_end {a b : List Int} {i : Nat} (ha : i ≤ a.length) (hb : i ≤ b.length) (h : a.length ≤ i ∨ b.length ≤ i) : beforeB (a.drop i) (b.drop i) = decide ((a.length : Int) < b.length) := by
  rcases h with h | h
  · have e : i = a.length := by omega
    subst e
    rw [List.drop_length]
    cases hd : b.drop a.length with
    | nil => have := congrArg List.length hd; simp at this; simp [beforeB]; omega
    | cons x xs => have := congrArg List.length hd; simp at this; simp [beforeB]; omega
  · have e : i = b.length := by omega
    subst e
    rw [List.drop_length]
    have e2 : ∀ l : List Int, beforeB l [] = false := fun l => by cases l <;> rfl
    rw [e2]
    simp
    omega
/-- How many days an entry's range has. -/
def span (e : Ent5) : Nat := (e.hi - e.lo + 1).toNat
def manyN : List Ent5 → Nat
  | [] => 1
  | e :: es => span e * manyN es
/-- The list of days with a number. -/
def nthL : List Ent5 → Nat → List Int
  | [], _ => []
  | e :: es, n => (e.lo + ((n % span e : Nat) : Int)) :: nthL es (n / span e)
theorem datedF_end : ∀ {es : List Ent5} {ts : List Int}, (ts = [] ∨ es = []) → datedF es ts = ((ts.length : Int) == es.length)
  | [], [], _ => rfl
  | e :: es, [], _ => by simp [datedF]; omega
  | [], t :: ts, _ => by simp [datedF]; omega
  | _ :: _, _ :: _, h => by simp at h
theorem zr49 : (Try.prog.info? 49).map (·.zero) = some (some (.agg #[(.int .i64 0), (.int .i64 0)])) := by kernel_rfl
theorem Before_ok (a b : List Int) : PureAt Try.prog 62 [ints a, ints b] (.bool (beforeB a b)) := by
  refine PureAt.of_awp' Try.func62 rfl (by kernel_rfl) rfl fun hlen Γ hn hl => ?_
  have ha5 := hlen.1; have hb5 := hlen.2.1; simp only [List.length_map] at ha5 hb5
  refine awp_seq ?_
  refine awp_region ?_
  refine sq rfl rfl hn rfl (q_assign rfl rfl) ?_
  refine run_nil ?_
  refine aend_then ?_
  refine awp_seq ?_
  refine awp_seq ?_
  refine awp_region ?_
  refine sq rfl rfl hn rfl (q_assign rfl rfl) ?_
  refine run_nil ?_
  refine aend_then ?_
  refine awp_block ?_
  refine awp_loop_on (ι := { i : Nat // i ≤ a.length ∧ i ≤ b.length ∧ beforeB a b = beforeB (a.drop i) (b.drop i) }) (fun x => (5, true, .d (.int .i64 (x.1 : Int))) :: anys [6, 7, 8, 9, 10, 11, 12, 13, 14, 15, 18, 19, 20, 21, 22, 23, 24, 25, 26, 16, 17]) (fun x => []) (fun x => a.length - x.1) ⟨0, by simp⟩ ⟨.inl rfl, holdT_anys _⟩ trivial ?_
  rintro ⟨i, hi, hj, hF⟩
  dsimp only
  refine awp_seq ?_
  refine awp_seq ?_
  refine awp_region ?_
  refine sq rfl rfl hn rfl (q_move rfl rfl) ?_
  refine sq rfl rfl hn rfl (q_move rfl rfl) ?_
  refine sq rfl rfl hn rfl (q_len rfl rfl Try.underlying22) ?_
  refine sq rfl rfl hn rfl (q_lss rfl rfl rfl) ?_
  refine sq rfl rfl hn rfl (q_move rfl rfl) ?_
  refine stepG [] (guard_some rfl rfl rfl) rfl (nb hn rfl) (fun hc => trivial) (fun hc => q_move rfl rfl) ?_
  refine stepG [] (guard_some rfl rfl rfl) rfl (nb hn rfl) (fun hc => trivial) (fun hc => q_move rfl rfl) ?_
  refine stepG [(12, _)] (guard_some rfl rfl rfl) rfl (nb hn rfl) (fun hc => ⟨⟨_, rfl, hc⟩, trivial⟩) (fun hc => q_len rfl rfl Try.underlying22) ?_
  refine stepG [(11, _), (13, _)] (guard_some rfl rfl rfl) rfl (nb hn rfl) (fun hc => ⟨⟨_, rfl, hc⟩, ⟨_, rfl, hc⟩, trivial⟩) (fun hc => q_lss rfl rfl rfl) ?_
  refine sq rfl rfl hn rfl (q_and rfl rfl rfl (by simp_all)) ?_
  refine run_nil ?_
  refine aend_then ?_
  refine awp_cond rfl (fun hb0 => ?_) (fun hb0 => ?_)
  · try simp only [decide_eq_true_eq, decide_eq_false_iff_not, Bool.and_eq_true, Bool.or_eq_true, Bool.and_eq_false_iff, Bool.or_eq_false_iff, Bool.not_eq_true', Bool.not_eq_false', beq_iff_eq, bne_iff_ne, ne_eq, beq_eq_false_iff_ne, bne_eq_false_iff_eq, Int.not_lt, Int.not_le] at hb0
    have hlt : i < a.length := by simp only [List.length_map] at hb0; omega
    have hlt2 : i < b.length := by simp only [List.length_map] at hb0; omega
    obtain ⟨x, hx⟩ := ex_get hlt
    obtain ⟨y, hy⟩ := ex_get hlt2
    rw [drop_of hx, drop_of hy] at hF; simp only [beforeB] at hF
    refine awp_skip ?_
    refine aend_then ?_
    refine awp_seq ?_
    refine awp_block ?_
    refine awp_seq ?_
    refine d_start (W := fun b => True) fmo ?_
    refine d1q (i := 0) rfl (by kernel_rfl) (fun _ _ _ _ h => h) rfl rfl hn rfl (q_move rfl rfl) ?_
    refine d1q (i := 1) rfl (by kernel_rfl) (fun _ _ _ _ h => h) rfl rfl hn rfl (q_move rfl rfl) ?_
    refine d1q (i := 2) rfl (by kernel_rfl) (fun _ _ _ _ h => h) rfl rfl hn rfl (q_index rfl rfl rfl Try.underlying22 sz3 rfl (mget hx)) ?_
    refine d1q (i := 3) rfl (by kernel_rfl) (fun _ _ _ _ h => h) rfl rfl hn rfl (q_loadp rfl rfl Try.underlying3 rfl seesFA) ?_
    refine d1q (i := 4) rfl (by kernel_rfl) (fun _ _ _ _ h => h) rfl rfl hn rfl (q_move rfl rfl) ?_
    refine d1q (i := 5) rfl (by kernel_rfl) (fun _ _ _ _ h => h) rfl rfl hn rfl (q_move rfl rfl) ?_
    refine d1q (i := 6) rfl (by kernel_rfl) (fun _ _ _ _ h => h) rfl rfl hn rfl (q_index rfl rfl rfl Try.underlying22 sz3 rfl (mget hy)) ?_
    refine d1q (i := 7) rfl (by kernel_rfl) (fun _ _ _ _ h => h) rfl rfl hn rfl (q_loadp rfl rfl Try.underlying3 rfl seesFA) ?_
    refine d1q (i := 8) rfl (by kernel_rfl) (fun _ _ _ _ h => h) rfl rfl hn rfl (q_neq rfl rfl rfl) ?_
    refine d1_of_d2 ?_
    refine d2_done (by kernel_rfl) ?_
    refine aend_then ?_
    refine awp_cond rfl (fun hb1 => ?_) (fun hb1 => ?_)
    · skip
      refine awp_seq ?_
      refine d_start (W := fun b => True) fmo ?_
      refine d1q (i := 0) rfl (by kernel_rfl) (fun _ _ _ _ h => h) rfl rfl hn rfl (q_move rfl rfl) ?_
      refine d1q (i := 1) rfl (by kernel_rfl) (fun _ _ _ _ h => h) rfl rfl hn rfl (q_move rfl rfl) ?_
      refine d1q (i := 2) rfl (by kernel_rfl) (fun _ _ _ _ h => h) rfl rfl hn rfl (q_index rfl rfl rfl Try.underlying22 sz3 rfl (mget hx)) ?_
      refine d1q (i := 3) rfl (by kernel_rfl) (fun _ _ _ _ h => h) rfl rfl hn rfl (q_loadp rfl rfl Try.underlying3 rfl seesFA) ?_
      refine d1q (i := 4) rfl (by kernel_rfl) (fun _ _ _ _ h => h) rfl rfl hn rfl (q_move rfl rfl) ?_
      refine d1q (i := 5) rfl (by kernel_rfl) (fun _ _ _ _ h => h) rfl rfl hn rfl (q_move rfl rfl) ?_
      refine d1q (i := 6) rfl (by kernel_rfl) (fun _ _ _ _ h => h) rfl rfl hn rfl (q_index rfl rfl rfl Try.underlying22 sz3 rfl (mget hy)) ?_
      refine d1q (i := 7) rfl (by kernel_rfl) (fun _ _ _ _ h => h) rfl rfl hn rfl (q_loadp rfl rfl Try.underlying3 rfl seesFA) ?_
      refine d1q (i := 8) rfl (by kernel_rfl) (fun _ _ _ _ h => h) rfl rfl hn rfl (q_lss rfl rfl rfl) ?_
      refine d1q (i := 9) rfl (by kernel_rfl) (fun _ _ _ _ h => h) rfl rfl hn rfl (q_assign rfl rfl) ?_
      refine d1_of_d2 ?_
      refine d2_done (by kernel_rfl) ?_
      refine aend_then ?_
      refine awp_ret ?_
      refine aend_block_ret ?_
      refine aend_then_ret ?_
      refine aend_then_ret ?_
      refine aend_block_ret ?_
      refine aend_then_ret ?_
      refine ret_eq (ret_1 (.inl rfl) hl rfl (.tmp rfl)) ?_
      rw [hF, hb1]; rfl
    · skip
      refine awp_skip ?_
      refine aend_block ?_
      refine aend_then ?_
      refine awp_region ?_
      refine sq rfl rfl hn rfl (q_move rfl rfl) ?_
      refine sq rfl rfl hn rfl (q_add rfl rfl rfl (r := ((i + 1 : Nat) : Int)) (i64w (by omega) (by omega))) ?_
      refine sq rfl rfl hn rfl (q_assign rfl rfl) ?_
      refine run_nil ?_
      exact aend_round_on ⟨i + 1, by omega, by omega, by rw [hF, hb1]; rfl⟩ ⟨.inl rfl, holdT_anys _⟩ trivial (by simp only; omega) (by repeat (first | exact kr _ | refine kc rfl ?_)) (by repeat (first | exact kr _ | refine kc rfl ?_))
  · try simp only [decide_eq_true_eq, decide_eq_false_iff_not, Bool.and_eq_true, Bool.or_eq_true, Bool.and_eq_false_iff, Bool.or_eq_false_iff, Bool.not_eq_true', Bool.not_eq_false', beq_iff_eq, bne_iff_ne, ne_eq, beq_eq_false_iff_ne, bne_eq_false_iff_eq, Int.not_lt, Int.not_le] at hb0
    refine awp_exit ?_
    refine aend_then_exit ?_
    refine aend_then_exit ?_
    refine aend_block_exit ?_
    refine aend_then ?_
    refine awp_seq ?_
    refine awp_region ?_
    refine sq rfl rfl hn rfl (q_move rfl rfl) ?_
    refine sq rfl rfl hn rfl (q_len rfl rfl Try.underlying22) ?_
    refine sq rfl rfl hn rfl (q_move rfl rfl) ?_
    refine sq rfl rfl hn rfl (q_len rfl rfl Try.underlying22) ?_
    refine sq rfl rfl hn rfl (q_lss rfl rfl rfl) ?_
    refine sq rfl rfl hn rfl (q_assign rfl rfl) ?_
    refine run_nil ?_
    refine aend_then ?_
    refine awp_ret ?_
    refine ret_eq (ret_1 (.inl rfl) hl rfl (.tmp rfl)) ?_
    rw [hF, before_end hi hj (by simp only [List.length_map] at hb0; omega)]; simp only [List.length_map]
theorem Same_ok (a b : List Int) : PureAt Try.prog 22 [ints a, ints b] (.bool (sameB a b)) := by
  refine PureAt.of_awp Try.func22 rfl (by kernel_rfl) (Nat.le_of_ble_eq_true rfl) fun Γ hn hl => ?_
  refine awp_seq ?_
  refine awp_region ?_
  refine sq rfl rfl hn rfl (q_assign rfl rfl) ?_
  refine run_nil ?_
  refine aend_then ?_
  refine awp_seq ?_
  refine awp_region ?_
  refine sq rfl rfl hn rfl (q_move rfl rfl) ?_
  refine sq rfl rfl hn rfl (q_len rfl rfl Try.underlying22) ?_
  refine sq rfl rfl hn rfl (q_move rfl rfl) ?_
  refine sq rfl rfl hn rfl (q_len rfl rfl Try.underlying22) ?_
  refine sq rfl rfl hn rfl (q_eql rfl rfl rfl) ?_
  refine sq rfl rfl hn rfl (q_move rfl rfl) ?_
  refine stepG [] (guard_some rfl rfl rfl) rfl (nb hn rfl) (fun hc => trivial) (fun hc => q_move rfl rfl) ?_
  refine stepG [] (guard_some rfl rfl rfl) rfl (nb hn rfl) (fun hc => trivial) (fun hc => q_move rfl rfl) ?_
  refine stepW (s_call [(11, _), (12, _)] (fun hc => Before_ok _ _) rfl (guard_some rfl rfl rfl) rfl (nb hn rfl) (fun hc => ⟨⟨_, rfl, hc⟩, ⟨_, rfl, hc⟩, trivial⟩) rfl rfl (.refl _)) fun _ => ?_
  refine stepG [(13, _)] (guard_some rfl rfl rfl) rfl (nb hn rfl) (fun hc => ⟨⟨_, rfl, hc⟩, trivial⟩) (fun hc => q_not rfl rfl) ?_
  refine sq rfl rfl hn rfl (q_and rfl rfl rfl (by simp_all)) ?_
  refine sq rfl rfl hn rfl (q_move rfl rfl) ?_
  refine stepG [] (guard_some rfl rfl rfl) rfl (nb hn rfl) (fun hc => trivial) (fun hc => q_move rfl rfl) ?_
  refine stepG [] (guard_some rfl rfl rfl) rfl (nb hn rfl) (fun hc => trivial) (fun hc => q_move rfl rfl) ?_
  refine stepW (s_call [(17, _), (18, _)] (fun hc => Before_ok _ _) rfl (guard_some rfl rfl rfl) rfl (nb hn rfl) (fun hc => ⟨⟨_, rfl, hc⟩, ⟨_, rfl, hc⟩, trivial⟩) rfl rfl (.refl _)) fun _ => ?_
  refine stepG [(19, _)] (guard_some rfl rfl rfl) rfl (nb hn rfl) (fun hc => ⟨⟨_, rfl, hc⟩, trivial⟩) (fun hc => q_not rfl rfl) ?_
  refine sq rfl rfl hn rfl (q_and rfl rfl rfl (by simp_all)) ?_
  refine sq rfl rfl hn rfl (q_assign rfl rfl) ?_
  refine run_nil ?_
  refine aend_then ?_
  refine awp_ret ?_
  refine ret_eq (ret_1 (.inl rfl) hl rfl (.tmp rfl)) ?_
  simp only [sameB, List.length_map]
theorem IsDated_ok (r : Reg) (l : List Int) : PureAt Try.prog 47 [regD r, ints l] (.bool (datedF r.entries l)) := by
  refine PureAt.of_awp' Try.func47 rfl (by kernel_rfl) rfl fun hlen Γ hn hl => ?_
  have hl1 := hlen.1 6 (r.entries.map entE) (by simp); have hl2 := hlen.2.1
  simp only [List.length_map] at hl1 hl2
  refine awp_seq ?_
  refine awp_region ?_
  refine stepW (s_box 2 rfl rfl rfl (nb hn rfl) rfl rfl) fun b2 => ?_
  refine sq rfl rfl hn rfl (q_assign rfl rfl) ?_
  refine run_nil ?_
  refine aend_then ?_
  refine awp_seq ?_
  refine awp_seq ?_
  refine awp_region ?_
  refine sq rfl rfl hn rfl (q_assign rfl rfl) ?_
  refine run_nil ?_
  refine aend_then ?_
  refine awp_block ?_
  refine awp_loop_on (ι := { i : Nat // i ≤ r.entries.length ∧ i ≤ l.length ∧ datedF r.entries l = datedF (r.entries.drop i) (l.drop i) }) (fun x => (5, true, .d (.int .i64 (x.1 : Int))) :: anys [6, 7, 8, 9, 10, 11, 12, 13, 14, 15, 16, 19, 20, 21, 22, 23, 24, 25, 26, 27, 28, 29, 30, 31, 32, 33, 34, 35, 36, 37, 38, 17, 18]) (fun x => []) (fun x => r.entries.length - x.1) ⟨0, by simp⟩ ⟨.inl rfl, holdT_anys _⟩ trivial ?_
  rintro ⟨i, hi, hj, hF⟩
  dsimp only
  refine awp_seq ?_
  refine awp_seq ?_
  refine awp_region ?_
  refine sq rfl rfl hn rfl (q_move rfl rfl) ?_
  refine sq rfl rfl hn rfl (q_move rfl rfl) ?_
  refine sq rfl rfl hn rfl (q_len rfl rfl Try.underlying22) ?_
  refine sq rfl rfl hn rfl (q_lss rfl rfl rfl) ?_
  refine sq rfl rfl hn rfl (q_move rfl rfl) ?_
  refine stepG [] (guard_some rfl rfl rfl) rfl (nb hn rfl) (fun hc => trivial) (fun hc => q_move rfl rfl) ?_
  refine stepG [] (guard_some rfl rfl rfl) rfl (nb hn rfl) (fun hc => trivial) (fun hc => q_fieldAddr rfl rfl Try.underlying26 rfl sz23) ?_
  refine stepG [(12, _)] (guard_some rfl rfl rfl) rfl (nb hn rfl) (fun hc => ⟨⟨_, rfl, hc⟩, trivial⟩) (fun hc => q_load rfl rfl (id := 2) rfl Try.underlying23 rfl rfl sees0) ?_
  refine stepG [(13, _)] (guard_some rfl rfl rfl) rfl (nb hn rfl) (fun hc => ⟨⟨_, rfl, hc⟩, trivial⟩) (fun hc => q_len rfl rfl Try.underlying23) ?_
  refine stepG [(11, _), (14, _)] (guard_some rfl rfl rfl) rfl (nb hn rfl) (fun hc => ⟨⟨_, rfl, hc⟩, ⟨_, rfl, hc⟩, trivial⟩) (fun hc => q_lss rfl rfl rfl) ?_
  refine sq rfl rfl hn rfl (q_and rfl rfl rfl (by simp_all)) ?_
  refine run_nil ?_
  refine aend_then ?_
  refine awp_cond rfl (fun hb0 => ?_) (fun hb0 => ?_)
  · try simp only [decide_eq_true_eq, decide_eq_false_iff_not, Bool.and_eq_true, Bool.or_eq_true, Bool.and_eq_false_iff, Bool.or_eq_false_iff, Bool.not_eq_true', Bool.not_eq_false', beq_iff_eq, bne_iff_ne, ne_eq, beq_eq_false_iff_ne, bne_eq_false_iff_eq, Int.not_lt, Int.not_le] at hb0
    have hlt : i < r.entries.length := by simp only [List.length_map] at hb0; omega
    have hlt2 : i < l.length := by simp only [List.length_map] at hb0; omega
    obtain ⟨e, he⟩ := ex_get hlt
    obtain ⟨t, ht⟩ := ex_get hlt2
    rw [drop_of he, drop_of ht] at hF; simp only [datedF] at hF
    refine awp_skip ?_
    refine aend_then ?_
    refine awp_seq ?_
    refine awp_block ?_
    refine awp_seq ?_
    refine d_start (W := fun b => b ≠ b2) fmo ?_
    refine d1q (i := 0) rfl (by kernel_rfl) (fun _ _ _ _ h => h) rfl rfl hn rfl (q_move rfl rfl) ?_
    refine d1q (i := 1) rfl (by kernel_rfl) (fun _ _ _ _ h => h) rfl rfl hn rfl (q_move rfl rfl) ?_
    refine d1q (i := 2) rfl (by kernel_rfl) (fun _ _ _ _ h => h) rfl rfl hn rfl (q_index rfl rfl rfl Try.underlying22 sz3 rfl (mget ht)) ?_
    refine d1q (i := 3) rfl (by kernel_rfl) (fun _ _ _ _ h => h) rfl rfl hn rfl (q_loadp rfl rfl Try.underlying3 rfl seesFA) ?_
    refine d1q (i := 4) rfl (by kernel_rfl) (fun _ _ _ _ h => h) rfl rfl hn rfl (q_fieldAddr rfl rfl Try.underlying26 rfl sz23) ?_
    refine d1q (i := 5) rfl (by kernel_rfl) (fun _ _ _ _ h => h) rfl rfl hn rfl (q_load rfl rfl (id := 2) rfl Try.underlying23 rfl rfl (seesA (by simp))) ?_
    refine d1q (i := 6) rfl (by kernel_rfl) (fun _ _ _ _ h => h) rfl rfl hn rfl (q_move rfl rfl) ?_
    refine d1q (i := 7) rfl (by kernel_rfl) (fun _ _ _ _ h => h) rfl rfl hn rfl (q_index rfl rfl rfl Try.underlying23 sz67 rfl (mget he)) ?_
    refine d1q (i := 8) rfl (by kernel_rfl) (fun _ _ _ _ h => h) rfl rfl hn rfl (q_fieldAddrp rfl rfl Try.underlying67 rfl sz49 rfl) ?_
    refine d1q (i := 9) rfl (by kernel_rfl) (fun _ _ _ _ h => h) rfl rfl hn rfl (q_fieldAddrp rfl rfl Try.underlying49 rfl sz3 rfl) ?_
    refine d1q (i := 10) rfl (by kernel_rfl) (fun _ _ _ _ h => h) rfl rfl hn rfl (q_loadp rfl rfl Try.underlying3 rfl seesFA) ?_
    refine d1q (i := 11) rfl (by kernel_rfl) (fun _ _ _ _ h => h) rfl rfl hn rfl (q_fieldAddr rfl rfl Try.underlying26 rfl sz23) ?_
    refine d1q (i := 12) rfl (by kernel_rfl) (fun _ _ _ _ h => h) rfl rfl hn rfl (q_load rfl rfl (id := 2) rfl Try.underlying23 rfl rfl (seesA (by simp))) ?_
    refine d1q (i := 13) rfl (by kernel_rfl) (fun _ _ _ _ h => h) rfl rfl hn rfl (q_move rfl rfl) ?_
    refine d1q (i := 14) rfl (by kernel_rfl) (fun _ _ _ _ h => h) rfl rfl hn rfl (q_index rfl rfl rfl Try.underlying23 sz67 rfl (mget he)) ?_
    refine d1q (i := 15) rfl (by kernel_rfl) (fun _ _ _ _ h => h) rfl rfl hn rfl (q_fieldAddrp rfl rfl Try.underlying67 rfl sz49 rfl) ?_
    refine d1q (i := 16) rfl (by kernel_rfl) (fun _ _ _ _ h => h) rfl rfl hn rfl (q_fieldAddrp rfl rfl Try.underlying49 rfl sz3 rfl) ?_
    refine d1q (i := 17) rfl (by kernel_rfl) (fun _ _ _ _ h => h) rfl rfl hn rfl (q_loadp rfl rfl Try.underlying3 rfl seesFA) ?_
    refine d1_of_d2 ?_
    refine d2_one (i := 18) (by kernel_rfl) rfl (s_call [] (fun _ => In_ok _ _ _) rfl (guard_none rfl) rfl (nb hn rfl) (fun _ => trivial) rfl rfl (.refl _)) fun _ => ?_
    refine d2_of_d1 ?_
    refine d1q (i := 19) rfl (by kernel_rfl) (fun _ _ _ _ h => h) rfl rfl hn rfl (q_not rfl rfl) ?_
    refine d1_of_d2 ?_
    refine d2_done (by kernel_rfl) ?_
    refine aend_then ?_
    refine awp_cond rfl (fun hb1 => ?_) (fun hb1 => ?_)
    · skip
      refine awp_seq ?_
      refine awp_region ?_
      refine sq rfl rfl hn rfl (q_assign rfl rfl) ?_
      refine run_nil ?_
      refine aend_then ?_
      refine awp_ret ?_
      refine aend_block_ret ?_
      refine aend_then_ret ?_
      refine aend_then_ret ?_
      refine aend_block_ret ?_
      refine aend_then_ret ?_
      refine ret_eq (ret_1 (.inl rfl) hl rfl (.tmp rfl)) ?_
      rw [hF, notT hb1]; rfl
    · skip
      refine awp_skip ?_
      refine aend_block ?_
      refine aend_then ?_
      refine awp_region ?_
      refine sq rfl rfl hn rfl (q_move rfl rfl) ?_
      refine sq rfl rfl hn rfl (q_add rfl rfl rfl (r := ((i + 1 : Nat) : Int)) (i64w (by omega) (by omega))) ?_
      refine sq rfl rfl hn rfl (q_assign rfl rfl) ?_
      refine run_nil ?_
      exact aend_round_on ⟨i + 1, by omega, by omega, by rw [hF, notF hb1]; rfl⟩ ⟨.inl rfl, holdT_anys _⟩ trivial (by simp only; omega) (by repeat (first | exact kr _ | refine kc rfl ?_)) (by repeat (first | exact kr _ | refine kc rfl ?_))
  · try simp only [decide_eq_true_eq, decide_eq_false_iff_not, Bool.and_eq_true, Bool.or_eq_true, Bool.and_eq_false_iff, Bool.or_eq_false_iff, Bool.not_eq_true', Bool.not_eq_false', beq_iff_eq, bne_iff_ne, ne_eq, beq_eq_false_iff_ne, bne_eq_false_iff_eq, Int.not_lt, Int.not_le] at hb0
    refine awp_exit ?_
    refine aend_then_exit ?_
    refine aend_then_exit ?_
    refine aend_block_exit ?_
    refine aend_then ?_
    refine awp_seq ?_
    refine awp_region ?_
    refine sq rfl rfl hn rfl (q_move rfl rfl) ?_
    refine sq rfl rfl hn rfl (q_len rfl rfl Try.underlying22) ?_
    refine sq rfl rfl hn rfl (q_fieldAddr rfl rfl Try.underlying26 rfl sz23) ?_
    refine sq rfl rfl hn rfl (q_load rfl rfl (id := 2) rfl Try.underlying23 rfl rfl sees0) ?_
    refine sq rfl rfl hn rfl (q_len rfl rfl Try.underlying23) ?_
    refine sq rfl rfl hn rfl (q_eql rfl rfl rfl) ?_
    refine sq rfl rfl hn rfl (q_assign rfl rfl) ?_
    refine run_nil ?_
    refine aend_then ?_
    refine awp_ret ?_
    refine ret_eq (ret_1 (.inl rfl) hl rfl (.tmp rfl)) ?_
    simp only [List.length_map] at hb0 ⊢
    rw [hF, datedF_end (by rcases hb0 with h | h; exact .inl (List.drop_of_length_le (by omega)); exact .inr (List.drop_of_length_le (by omega)))]; simp only [List.length_drop]; congr 1; rw [Bool.eq_iff_iff, beq_iff_eq, beq_iff_eq]; omega
end Go.Proofs.Ytnbmmopjkkofoaa
