/-
  A part of the proof that contangolaw.ShortNames returns true: what the last text needs, and no more. No condition: no statement of the seat is proved here.
-/
import Derived.Test.YtaokpncjemkhcaaGreatChecked
import Derived.Test.YtaokpncjemkhcaaGreatShortNamesE
namespace Go.Proofs.YtaokpncjemkhcaaGreat
open Go.RowKit
set_option maxRecDepth 20000
set_option linter.all false
def dayB (n : Int) : Bool := decide (0 ≤ n) && decide (n ≤ 9)
def houseB (r : Reg) (n : Int) : Bool := decide (0 ≤ n) && decide (n ≤ iw (r.houses - 1))
def sheetB (r : Reg) (n : Int) : Bool := decide (0 ≤ n) && decide (n ≤ (r.start.length : Int) - 1)
def entryB (r : Reg) (e : Ent5) : Bool := (decide (0 ≤ e.kind) && decide (e.kind ≤ 2)) && sheetB r e.sheet && houseB r e.frm && houseB r e.to && (e.frm != e.to) && dayB e.lo && dayB e.hi && decide (e.lo ≤ e.hi)
def limB (r : Reg) : Bool := decide (4 < r.houses) || decide (4 < (r.start.length : Int)) || decide (6 < (r.entries.length : Int)) || decide (4 < (r.sights.length : Int))
def sightB (r : Reg) (s : Sight5) : Bool := sheetB r s.sheet && houseB r s.house && dayB s.day
def argB (r : Reg) : Bool := decide (r.houses < 1) || ((r.start.length : Int) == 0) || !(r.start.all (houseB r)) || !(r.entries.all (entryB r)) || !(r.sights.all (sightB r))
def checkE (r : Reg) : Int := bif limB r then 3 else bif argB r then 1 else 0
theorem yt {r : Reg} {n : Int} (h1 : 1 ≤ r.houses) (h2 : r.houses ≤ 4) : houseB r n = (decide (0 ≤ n) && decide (n ≤ r.houses - 1)) := by
  unfold houseB
  rw [iw_of (by omega)]
theorem notT {b : Bool} (h : (!b) = true) : b = false := by cases b <;> simp_all
theorem notF {b : Bool} (h : (!b) = false) : b = true := by cases b <;> simp_all
theorem checkE_0 {r : Reg} (h : limB r = false) (h1 : 1 ≤ r.houses) (h2 : r.houses ≤ 4 ∧ r.start ≠ []) (k1 : r.start.all (houseB r) = true) (k2 : r.entries.all (entryB r) = true) (k3 : r.sights.all (sightB r) = true) : checkE r = 0 := by
  have : argB r = false := by
    have hz : ¬ r.houses < 1 := by omega
    have hl : ¬ ((r.start.length : Int) = 0) := fun e => h2.2 (List.eq_nil_of_length_eq_zero (by omega))
    simp [argB, k1, k2, k3, hz, hl, h2.2]
  simp [checkE, h, this]
theorem sz3 : Sz Tryz.prog 3 1 := (by kernel_rfl : (Tryz.prog.info? 3).map (·.size) = some 1)
theorem sz22 : Sz Tryz.prog 22 1 := (by kernel_rfl : (Tryz.prog.info? 22).map (·.size) = some 1)
theorem sz23 : Sz Tryz.prog 23 1 := (by kernel_rfl : (Tryz.prog.info? 23).map (·.size) = some 1)
theorem sz24 : Sz Tryz.prog 24 1 := (by kernel_rfl : (Tryz.prog.info? 24).map (·.size) = some 1)
theorem sz41 : Sz Tryz.prog 41 1 := (by kernel_rfl : (Tryz.prog.info? 41).map (·.size) = some 1)
theorem sz42 : Sz Tryz.prog 42 1 := (by kernel_rfl : (Tryz.prog.info? 42).map (·.size) = some 1)
theorem sz44 : Sz Tryz.prog 44 4 := (by kernel_rfl : (Tryz.prog.info? 44).map (·.size) = some 4)
theorem sz37 : Sz Tryz.prog 37 2 := (by kernel_rfl : (Tryz.prog.info? 37).map (·.size) = some 2)
theorem sz103 : Sz Tryz.prog 103 2 := (by kernel_rfl : (Tryz.prog.info? 103).map (·.size) = some 2)
theorem sz106 : Sz Tryz.prog 106 3 := (by kernel_rfl : (Tryz.prog.info? 106).map (·.size) = some 3)
theorem sz105 : Sz Tryz.prog 105 6 := (by kernel_rfl : (Tryz.prog.info? 105).map (·.size) = some 6)
theorem sz90 : Sz Tryz.prog 90 3 := (by kernel_rfl : (Tryz.prog.info? 90).map (·.size) = some 3)
theorem sz87 : Sz Tryz.prog 87 6 := (by kernel_rfl : (Tryz.prog.info? 87).map (·.size) = some 6)
theorem sz150 : Sz Tryz.prog 150 1 := (by kernel_rfl : (Tryz.prog.info? 150).map (·.size) = some 1)
theorem zr106 : (Tryz.prog.info? 106).map (·.zero) = some (some (.agg #[(.int .i64 0), (.int .i64 0), (.int .i64 0)])) := by kernel_rfl
theorem zr105 : (Tryz.prog.info? 105).map (·.zero) = some (some (.agg #[(.int .i64 0), (.int .i64 0), (.int .i64 0), (.int .i64 0), (.int .i64 0), (.int .i64 0)])) := by kernel_rfl
theorem fmo : Tryz.prog.follows .mixedOrders = true := by kernel_rfl
theorem kh (n lo hi : Int) : PureAt Tryz.prog 87 [.int .i64 n, .int .i64 lo, .int .i64 hi] (.bool (decide (lo ≤ n) && decide (n ≤ hi))) := by
 refine PureAt.of_awp Tryz.func87 rfl (by kernel_rfl) (Nat.le_of_ble_eq_true rfl) fun Γ hn hl => ?_
 refine zC (zB ?_)
 refine sq rfl rfl hn rfl (zF rfl rfl) ?_
 refine zE (zA (zC (zB ?_)))
 refine sq rfl rfl hn rfl (zG rfl rfl) ?_
 refine sq rfl rfl hn rfl (zG rfl rfl) ?_
 refine sq rfl rfl hn rfl (zBp rfl rfl rfl) ?_
 refine sq rfl rfl hn rfl (zG rfl rfl) ?_
 refine stepG [] (zD rfl rfl rfl) rfl (nb hn rfl) (fun hc => trivial) (fun hc => zG rfl rfl) ?_
 refine stepG [] (zD rfl rfl rfl) rfl (nb hn rfl) (fun hc => trivial) (fun hc => zG rfl rfl) ?_
 refine stepG [(11, _), (12, _)] (zD rfl rfl rfl) rfl (nb hn rfl) (fun hc => ⟨⟨_, rfl, hc⟩, ⟨_, rfl, hc⟩, trivial⟩) (fun hc => zBp rfl rfl rfl) ?_
 refine sq rfl rfl hn rfl (zy rfl rfl rfl (by simp_all)) ?_
 refine sq rfl rfl hn rfl (zF rfl rfl) ?_
 refine zE (zA (zO ?_))
 exact zt (.inl rfl) hl rfl (.tmp rfl)
theorem zDA (n : Int) : PureAt Tryz.prog 84 [.int .i64 n] (.bool (dayB n)) := by
 refine PureAt.of_awp Tryz.func84 rfl (by kernel_rfl) (Nat.le_of_ble_eq_true rfl) fun Γ hn hl => ?_
 refine zC (zB ?_)
 refine sq rfl rfl hn rfl (zF rfl rfl) ?_
 refine zE (zA (zC (zB ?_)))
 refine sq rfl rfl hn rfl (zG rfl rfl) ?_
 refine stepW (s_call [] (fun _ => kh _ _ _) rfl (zI rfl) rfl (nb hn rfl) (fun _ => trivial) rfl rfl (.refl _)) fun _ => ?_
 refine sq rfl rfl hn rfl (zF rfl rfl) ?_
 refine zE (zA (zO ?_))
 exact zt (.inl rfl) hl rfl (.tmp rfl)
theorem zBH (r : Reg) (n : Int) : PureAt Tryz.prog 55 [regD r, .int .i64 n] (.bool (houseB r n)) := by
 refine PureAt.of_awp Tryz.func55 rfl (by kernel_rfl) (Nat.le_of_ble_eq_true rfl) fun Γ hn hl => ?_
 refine zC (zB ?_)
 refine stepW (zr 2 rfl rfl rfl (nb hn rfl) rfl rfl) fun b2 => ?_
 refine sq rfl rfl hn rfl (zF rfl rfl) ?_
 refine zE (zA (zC (zB ?_)))
 refine sq rfl rfl hn rfl (zG rfl rfl) ?_
 refine sq rfl rfl hn rfl (zH rfl rfl Tryz.underlying44 rfl sz3) ?_
 refine sq rfl rfl hn rfl (zQ rfl rfl (id := 2) rfl Tryz.underlying3 rfl rfl sees0) ?_
 refine sq rfl rfl hn rfl (zAl rfl rfl rfl rfl) ?_
 refine stepW (s_call [] (fun _ => kh _ _ _) rfl (zI rfl) rfl (nb hn rfl) (fun _ => trivial) rfl rfl (.refl _)) fun _ => ?_
 refine sq rfl rfl hn rfl (zF rfl rfl) ?_
 refine zE (zA (zO ?_))
 exact zt (.inl rfl) hl rfl (.tmp rfl)
theorem zB8 (r : Reg) (n : Int) : PureAt Tryz.prog 125 [regD r, .int .i64 n] (.bool (sheetB r n)) := by
 refine PureAt.of_awp' Tryz.func125 rfl (by kernel_rfl) rfl fun hlen Γ hn hl => ?_
 have hst := (hlen.1 1 (r.start.map intE) (by simp)); simp only [List.length_map] at hst
 refine zC (zB ?_)
 refine stepW (zr 2 rfl rfl rfl (nb hn rfl) rfl rfl) fun b2 => ?_
 refine sq rfl rfl hn rfl (zF rfl rfl) ?_
 refine zE (zA (zC (zB ?_)))
 refine sq rfl rfl hn rfl (zG rfl rfl) ?_
 refine sq rfl rfl hn rfl (zH rfl rfl Tryz.underlying44 rfl sz22) ?_
 refine sq rfl rfl hn rfl (zQ rfl rfl (id := 2) rfl Tryz.underlying22 rfl rfl sees0) ?_
 refine sq rfl rfl hn rfl (z7 rfl rfl Tryz.underlying22) ?_
 refine sq rfl rfl hn rfl (zAl rfl rfl rfl (i64w (by simp only [List.length_map]; omega) rfl)) ?_
 refine stepW (s_call [] (fun _ => kh _ _ _) rfl (zI rfl) rfl (nb hn rfl) (fun _ => trivial) rfl rfl (.refl _)) fun _ => ?_
 refine sq rfl rfl hn rfl (zF rfl rfl) ?_
 refine zE (zA (zO ?_))
 refine zp (zt (.inl rfl) hl rfl (.tmp rfl)) ?_
 simp [sheetB]
theorem entry_ok (r : Reg) (e : Ent5) : PureAt Tryz.prog 93 [regD r, .agg (entE e)] (.bool (entryB r e)) := by
 refine PureAt.of_awp Tryz.func93 rfl (by kernel_rfl) (Nat.le_of_ble_eq_true rfl) fun Γ hn hl => ?_
 refine zC (zB ?_)
 refine stepW (zr 2 rfl rfl rfl (nb hn rfl) rfl rfl) fun b2 => ?_
 refine stepW (zr 3 rfl rfl rfl (nb hn rfl) rfl rfl) fun b3 => ?_
 refine sq rfl rfl hn rfl (zF rfl rfl) ?_
 refine zE (zA (zC (zB ?_)))
 refine sq rfl rfl hn rfl (zH rfl rfl Tryz.underlying87 rfl sz3) ?_
 refine sq rfl rfl hn rfl (zQ rfl rfl (id := 3) rfl Tryz.underlying3 rfl rfl sees0) ?_
 refine stepW (s_call [] (fun _ => kh _ _ _) rfl (zI rfl) rfl (nb hn rfl) (fun _ => trivial) rfl rfl (.refl _)) fun _ => ?_
 refine sq rfl rfl hn rfl (zG rfl rfl) ?_
 refine stepG [] (zD rfl rfl rfl) rfl (nb hn rfl) (fun hc => trivial) (fun hc => zY rfl rfl (id := 2) rfl Tryz.underlying44 rfl sz44 rfl rfl sees0) ?_
 refine stepG [] (zD rfl rfl rfl) rfl (nb hn rfl) (fun hc => trivial) (fun hc => zH rfl rfl Tryz.underlying87 rfl sz3) ?_
 refine stepG [(10, _)] (zD rfl rfl rfl) rfl (nb hn rfl) (fun hc => ⟨⟨_, rfl, hc⟩, trivial⟩) (fun hc => zQ rfl rfl (id := 3) rfl Tryz.underlying3 rfl rfl sees0) ?_
 refine stepW (s_call [(9, _), (11, _)] (fun hc => zB8 _ _) rfl (zD rfl rfl rfl) rfl (nb hn rfl) (fun hc => ⟨⟨_, rfl, hc⟩, ⟨_, rfl, hc⟩, trivial⟩) rfl rfl (.refl _)) fun _ => ?_
 refine sq rfl rfl hn rfl (zy rfl rfl rfl (by simp_all)) ?_
 refine sq rfl rfl hn rfl (zG rfl rfl) ?_
 refine stepG [] (zD rfl rfl rfl) rfl (nb hn rfl) (fun hc => trivial) (fun hc => zY rfl rfl (id := 2) rfl Tryz.underlying44 rfl sz44 rfl rfl sees0) ?_
 refine stepG [] (zD rfl rfl rfl) rfl (nb hn rfl) (fun hc => trivial) (fun hc => zH rfl rfl Tryz.underlying87 rfl sz3) ?_
 refine stepG [(16, _)] (zD rfl rfl rfl) rfl (nb hn rfl) (fun hc => ⟨⟨_, rfl, hc⟩, trivial⟩) (fun hc => zQ rfl rfl (id := 3) rfl Tryz.underlying3 rfl rfl sees0) ?_
 refine stepW (s_call [(15, _), (17, _)] (fun hc => zBH _ _) rfl (zD rfl rfl rfl) rfl (nb hn rfl) (fun hc => ⟨⟨_, rfl, hc⟩, ⟨_, rfl, hc⟩, trivial⟩) rfl rfl (.refl _)) fun _ => ?_
 refine sq rfl rfl hn rfl (zy rfl rfl rfl (by simp_all)) ?_
 refine sq rfl rfl hn rfl (zG rfl rfl) ?_
 refine stepG [] (zD rfl rfl rfl) rfl (nb hn rfl) (fun hc => trivial) (fun hc => zY rfl rfl (id := 2) rfl Tryz.underlying44 rfl sz44 rfl rfl sees0) ?_
 refine stepG [] (zD rfl rfl rfl) rfl (nb hn rfl) (fun hc => trivial) (fun hc => zH rfl rfl Tryz.underlying87 rfl sz3) ?_
 refine stepG [(22, _)] (zD rfl rfl rfl) rfl (nb hn rfl) (fun hc => ⟨⟨_, rfl, hc⟩, trivial⟩) (fun hc => zQ rfl rfl (id := 3) rfl Tryz.underlying3 rfl rfl sees0) ?_
 refine stepW (s_call [(21, _), (23, _)] (fun hc => zBH _ _) rfl (zD rfl rfl rfl) rfl (nb hn rfl) (fun hc => ⟨⟨_, rfl, hc⟩, ⟨_, rfl, hc⟩, trivial⟩) rfl rfl (.refl _)) fun _ => ?_
 refine sq rfl rfl hn rfl (zy rfl rfl rfl (by simp_all)) ?_
 refine sq rfl rfl hn rfl (zG rfl rfl) ?_
 refine stepG [] (zD rfl rfl rfl) rfl (nb hn rfl) (fun hc => trivial) (fun hc => zH rfl rfl Tryz.underlying87 rfl sz3) ?_
 refine stepG [(27, _)] (zD rfl rfl rfl) rfl (nb hn rfl) (fun hc => ⟨⟨_, rfl, hc⟩, trivial⟩) (fun hc => zQ rfl rfl (id := 3) rfl Tryz.underlying3 rfl rfl sees0) ?_
 refine stepG [] (zD rfl rfl rfl) rfl (nb hn rfl) (fun hc => trivial) (fun hc => zH rfl rfl Tryz.underlying87 rfl sz3) ?_
 refine stepG [(29, _)] (zD rfl rfl rfl) rfl (nb hn rfl) (fun hc => ⟨⟨_, rfl, hc⟩, trivial⟩) (fun hc => zQ rfl rfl (id := 3) rfl Tryz.underlying3 rfl rfl sees0) ?_
 refine stepG [(28, _), (30, _)] (zD rfl rfl rfl) rfl (nb hn rfl) (fun hc => ⟨⟨_, rfl, hc⟩, ⟨_, rfl, hc⟩, trivial⟩) (fun hc => yX rfl rfl rfl) ?_
 refine sq rfl rfl hn rfl (zy rfl rfl rfl (by simp_all)) ?_
 refine sq rfl rfl hn rfl (zG rfl rfl) ?_
 refine stepG [] (zD rfl rfl rfl) rfl (nb hn rfl) (fun hc => trivial) (fun hc => zH rfl rfl Tryz.underlying87 rfl sz37) ?_
 refine stepG [(34, _)] (zD rfl rfl rfl) rfl (nb hn rfl) (fun hc => ⟨⟨_, rfl, hc⟩, trivial⟩) (fun hc => zH rfl rfl Tryz.underlying37 rfl sz3) ?_
 refine stepG [(35, _)] (zD rfl rfl rfl) rfl (nb hn rfl) (fun hc => ⟨⟨_, rfl, hc⟩, trivial⟩) (fun hc => zQ rfl rfl (id := 3) rfl Tryz.underlying3 rfl rfl sees0) ?_
 refine stepW (s_call [(36, _)] (fun hc => zDA _) rfl (zD rfl rfl rfl) rfl (nb hn rfl) (fun hc => ⟨⟨_, rfl, hc⟩, trivial⟩) rfl rfl (.refl _)) fun _ => ?_
 refine sq rfl rfl hn rfl (zy rfl rfl rfl (by simp_all)) ?_
 refine sq rfl rfl hn rfl (zG rfl rfl) ?_
 refine stepG [] (zD rfl rfl rfl) rfl (nb hn rfl) (fun hc => trivial) (fun hc => zH rfl rfl Tryz.underlying87 rfl sz37) ?_
 refine stepG [(40, _)] (zD rfl rfl rfl) rfl (nb hn rfl) (fun hc => ⟨⟨_, rfl, hc⟩, trivial⟩) (fun hc => zH rfl rfl Tryz.underlying37 rfl sz3) ?_
 refine stepG [(41, _)] (zD rfl rfl rfl) rfl (nb hn rfl) (fun hc => ⟨⟨_, rfl, hc⟩, trivial⟩) (fun hc => zQ rfl rfl (id := 3) rfl Tryz.underlying3 rfl rfl sees0) ?_
 refine stepW (s_call [(42, _)] (fun hc => zDA _) rfl (zD rfl rfl rfl) rfl (nb hn rfl) (fun hc => ⟨⟨_, rfl, hc⟩, trivial⟩) rfl rfl (.refl _)) fun _ => ?_
 refine sq rfl rfl hn rfl (zy rfl rfl rfl (by simp_all)) ?_
 refine sq rfl rfl hn rfl (zG rfl rfl) ?_
 refine stepG [] (zD rfl rfl rfl) rfl (nb hn rfl) (fun hc => trivial) (fun hc => zH rfl rfl Tryz.underlying87 rfl sz37) ?_
 refine stepG [(46, _)] (zD rfl rfl rfl) rfl (nb hn rfl) (fun hc => ⟨⟨_, rfl, hc⟩, trivial⟩) (fun hc => zH rfl rfl Tryz.underlying37 rfl sz3) ?_
 refine stepG [(47, _)] (zD rfl rfl rfl) rfl (nb hn rfl) (fun hc => ⟨⟨_, rfl, hc⟩, trivial⟩) (fun hc => zQ rfl rfl (id := 3) rfl Tryz.underlying3 rfl rfl sees0) ?_
 refine stepG [] (zD rfl rfl rfl) rfl (nb hn rfl) (fun hc => trivial) (fun hc => zH rfl rfl Tryz.underlying87 rfl sz37) ?_
 refine stepG [(49, _)] (zD rfl rfl rfl) rfl (nb hn rfl) (fun hc => ⟨⟨_, rfl, hc⟩, trivial⟩) (fun hc => zH rfl rfl Tryz.underlying37 rfl sz3) ?_
 refine stepG [(50, _)] (zD rfl rfl rfl) rfl (nb hn rfl) (fun hc => ⟨⟨_, rfl, hc⟩, trivial⟩) (fun hc => zQ rfl rfl (id := 3) rfl Tryz.underlying3 rfl rfl sees0) ?_
 refine stepG [(48, _), (51, _)] (zD rfl rfl rfl) rfl (nb hn rfl) (fun hc => ⟨⟨_, rfl, hc⟩, ⟨_, rfl, hc⟩, trivial⟩) (fun hc => zBp rfl rfl rfl) ?_
 refine sq rfl rfl hn rfl (zy rfl rfl rfl (by simp_all)) ?_
 refine sq rfl rfl hn rfl (zF rfl rfl) ?_
 refine zE (zA (zO ?_))
 refine zp (zt (.inl rfl) hl rfl (.tmp rfl)) ?_
 simp [entryB, Bool.and_assoc]
theorem sight_ok (r : Reg) (s : Sight5) : PureAt Tryz.prog 94 [regD r, .agg (sightE s)] (.bool (sightB r s)) := by
 refine PureAt.of_awp Tryz.func94 rfl (by kernel_rfl) (Nat.le_of_ble_eq_true rfl) fun Γ hn hl => ?_
 refine zC (zB ?_)
 refine stepW (zr 2 rfl rfl rfl (nb hn rfl) rfl rfl) fun b2 => ?_
 refine stepW (zr 3 rfl rfl rfl (nb hn rfl) rfl rfl) fun b3 => ?_
 refine sq rfl rfl hn rfl (zF rfl rfl) ?_
 refine zE (zA (zC (zB ?_)))
 refine sq rfl rfl hn rfl (zY rfl rfl (id := 2) rfl Tryz.underlying44 rfl sz44 rfl rfl sees0) ?_
 refine sq rfl rfl hn rfl (zH rfl rfl Tryz.underlying90 rfl sz3) ?_
 refine sq rfl rfl hn rfl (zQ rfl rfl (id := 3) rfl Tryz.underlying3 rfl rfl sees0) ?_
 refine stepW (s_call [] (fun _ => zB8 _ _) rfl (zI rfl) rfl (nb hn rfl) (fun _ => trivial) rfl rfl (.refl _)) fun _ => ?_
 refine sq rfl rfl hn rfl (zG rfl rfl) ?_
 refine stepG [] (zD rfl rfl rfl) rfl (nb hn rfl) (fun hc => trivial) (fun hc => zY rfl rfl (id := 2) rfl Tryz.underlying44 rfl sz44 rfl rfl sees0) ?_
 refine stepG [] (zD rfl rfl rfl) rfl (nb hn rfl) (fun hc => trivial) (fun hc => zH rfl rfl Tryz.underlying90 rfl sz3) ?_
 refine stepG [(11, _)] (zD rfl rfl rfl) rfl (nb hn rfl) (fun hc => ⟨⟨_, rfl, hc⟩, trivial⟩) (fun hc => zQ rfl rfl (id := 3) rfl Tryz.underlying3 rfl rfl sees0) ?_
 refine stepW (s_call [(10, _), (12, _)] (fun hc => zBH _ _) rfl (zD rfl rfl rfl) rfl (nb hn rfl) (fun hc => ⟨⟨_, rfl, hc⟩, ⟨_, rfl, hc⟩, trivial⟩) rfl rfl (.refl _)) fun _ => ?_
 refine sq rfl rfl hn rfl (zy rfl rfl rfl (by simp_all)) ?_
 refine sq rfl rfl hn rfl (zG rfl rfl) ?_
 refine stepG [] (zD rfl rfl rfl) rfl (nb hn rfl) (fun hc => trivial) (fun hc => zH rfl rfl Tryz.underlying90 rfl sz3) ?_
 refine stepG [(16, _)] (zD rfl rfl rfl) rfl (nb hn rfl) (fun hc => ⟨⟨_, rfl, hc⟩, trivial⟩) (fun hc => zQ rfl rfl (id := 3) rfl Tryz.underlying3 rfl rfl sees0) ?_
 refine stepW (s_call [(17, _)] (fun hc => zDA _) rfl (zD rfl rfl rfl) rfl (nb hn rfl) (fun hc => ⟨⟨_, rfl, hc⟩, trivial⟩) rfl rfl (.refl _)) fun _ => ?_
 refine sq rfl rfl hn rfl (zy rfl rfl rfl (by simp_all)) ?_
 refine sq rfl rfl hn rfl (zF rfl rfl) ?_
 refine zE (zA (zO ?_))
 refine zp (zt (.inl rfl) hl rfl (.tmp rfl)) ?_
 simp [sightB, Bool.and_assoc]
theorem IndexFunc_int (l : List Int) (p : Int → Bool) (g : FuncId) (fi ca : List D) (hp : ∀ x ∈ l, PureAt Tryz.prog g (fi ++ [.int .i64 x] ++ ca) (.bool (p x))) : PureAt Tryz.prog 146 [ints l, .fn (.func g) fi ca] (.int .i64 (idxOf p l)) := by
 refine PureAt.of_awp' Tryz.func146 rfl (by kernel_rfl) rfl fun hlen Γ hn hl => ?_
 have hl5 := hlen.1; simp only [List.length_map] at hl5
 refine zC (zB ?_)
 refine sq rfl rfl hn rfl (zF rfl rfl) ?_
 refine zE (zA (zC (zC (zB ?_))))
 refine sq rfl rfl hn rfl (zG rfl rfl) ?_
 refine sq rfl rfl hn rfl (z7 rfl rfl Tryz.underlying22) ?_
 refine sq rfl rfl hn rfl (zG rfl rfl) ?_
 refine zE (zA (zV ?_))
 refine awp_loop_on (ι := { i : Nat // i ≤ l.length ∧ (l.take i).all (fun x => !p x) = true }) (fun i => (8, true, .d (.int .i64 (i.1 : Int))) :: anys [9, 10, 5, 11, 12, 13, 14, 15, 16, 18]) (fun i => []) (fun i => l.length - i.1) ⟨0, by simp⟩ ⟨.inl rfl, zJ _⟩ trivial ?_
 rintro ⟨i, hi, hall⟩
 dsimp only
 refine zC (zB ?_)
 refine sq rfl rfl hn rfl (yJ rfl rfl rfl) ?_
 refine zE (zA (zC ?_))
 refine zS rfl (fun hb0 => ?_) (fun hb0 => ?_)
 ·
  try simp only [decide_eq_true_eq, decide_eq_false_iff_not, Bool.and_eq_true, Bool.or_eq_true, Bool.and_eq_false_iff, Bool.or_eq_false_iff, Bool.not_eq_true', Bool.not_eq_false', beq_iff_eq, bne_iff_ne, ne_eq, beq_eq_false_iff_ne, bne_eq_false_iff_eq, Int.not_lt, Int.not_le] at hb0
  have hlt : i < l.length := by simpa using hb0
  obtain ⟨x, hx⟩ := z2 hlt
  refine zU (zA (zC (zV (zC (zB ?_)))))
  refine sq rfl rfl hn rfl (zG rfl rfl) ?_
  refine sq rfl rfl hn rfl (zF rfl rfl) ?_
  refine zE (zA (zC (zB ?_)))
  refine sq rfl rfl hn rfl (zG rfl rfl) ?_
  refine sq rfl rfl hn rfl (zG rfl rfl) ?_
  refine sq rfl rfl hn rfl (zG rfl rfl) ?_
  refine sq rfl rfl hn rfl (q_index rfl rfl rfl Tryz.underlying22 sz3 rfl (mget hx)) ?_
  refine sq rfl rfl hn rfl (zR rfl rfl Tryz.underlying3 rfl seesF0) ?_
  refine stepW (s_call [] (fun _ => hp x (List.mem_of_getElem? hx)) rfl (zI rfl) rfl (nb hn rfl) (fun _ => trivial) rfl rfl (.refl _)) fun _ => ?_
  refine zE (zA ?_)
  refine zS rfl (fun hb1 => ?_) (fun hb1 => ?_)
  ·
   try simp only [decide_eq_true_eq, decide_eq_false_iff_not, Bool.and_eq_true, Bool.or_eq_true, Bool.and_eq_false_iff, Bool.or_eq_false_iff, Bool.not_eq_true', Bool.not_eq_false', beq_iff_eq, bne_iff_ne, ne_eq, beq_eq_false_iff_ne, bne_eq_false_iff_eq, Int.not_lt, Int.not_le] at hb1
   refine zC (zB ?_)
   refine sq rfl rfl hn rfl (zG rfl rfl) ?_
   refine sq rfl rfl hn rfl (zF rfl rfl) ?_
   refine zE (zA (zO (zf (zL (zL (zf (zL ?_)))))))
   refine zp (zt (.inl rfl) hl rfl (.tmp rfl)) ?_
   rw [yu hx hall (by simpa using hb1)]
  ·
   try simp only [decide_eq_true_eq, decide_eq_false_iff_not, Bool.and_eq_true, Bool.or_eq_true, Bool.and_eq_false_iff, Bool.or_eq_false_iff, Bool.not_eq_true', Bool.not_eq_false', beq_iff_eq, bne_iff_ne, ne_eq, beq_eq_false_iff_ne, bne_eq_false_iff_eq, Int.not_lt, Int.not_le] at hb1
   refine zU (za (zA (zB ?_)))
   refine sq rfl rfl hn rfl (z6 rfl rfl rfl (r := ((i + 1 : Nat) : Int)) (i64w (by omega) (by omega))) ?_
   refine sq rfl rfl hn rfl (zG rfl rfl) ?_
   refine zE ?_
   exact zZ ⟨i + 1, by omega, yN hx hall (by simp [hb1])⟩ ⟨.inl rfl, zJ _⟩ trivial (by simp only; omega) (by repeat (first | exact kr _ | refine kc rfl ?_)) (by repeat (first | exact kr _ | refine kc rfl ?_))
 ·
  try simp only [decide_eq_true_eq, decide_eq_false_iff_not, Bool.and_eq_true, Bool.or_eq_true, Bool.and_eq_false_iff, Bool.or_eq_false_iff, Bool.not_eq_true', Bool.not_eq_false', beq_iff_eq, bne_iff_ne, ne_eq, beq_eq_false_iff_ne, bne_eq_false_iff_eq, Int.not_lt, Int.not_le] at hb0
  refine zw (zK (zK (zW (zA (zC (zB ?_))))))
  refine sq rfl rfl hn rfl (zF rfl rfl) ?_
  refine zE (zA (zO ?_))
  refine zp (zt (.inl rfl) hl rfl (.tmp rfl)) ?_
  have hi2 : i = l.length := by simp only [List.length_map] at hb0; omega
  subst hi2; rw [List.take_length] at hall; rw [ye hall]
theorem ki (l : List Int) (p : Int → Bool) (g : FuncId) (fi ca : List D) (hp : ∀ x ∈ l, PureAt Tryz.prog g (fi ++ [.int .i64 x] ++ ca) (.bool (p x))) : PureAt Tryz.prog 126 [ints l, .fn (.func g) fi ca] (.bool (l.any p)) := by
 refine PureAt.of_awp Tryz.func126 rfl (by kernel_rfl) (Nat.le_of_ble_eq_true rfl) fun Γ hn hl => ?_
 refine zC (zB ?_)
 refine sq rfl rfl hn rfl (zF rfl rfl) ?_
 refine zE (zA (zC (zB ?_)))
 refine sq rfl rfl hn rfl (zG rfl rfl) ?_
 refine sq rfl rfl hn rfl (zG rfl rfl) ?_
 refine stepW (s_call [] (fun _ => IndexFunc_int l p g fi ca hp) rfl (zI rfl) rfl (nb hn rfl) (fun _ => trivial) rfl rfl (.refl _)) fun _ => ?_
 refine sq rfl rfl hn rfl (zCP rfl rfl rfl) ?_
 refine sq rfl rfl hn rfl (zF rfl rfl) ?_
 refine zE (zA (zO ?_))
 refine zp (zt (.inl rfl) hl rfl (.tmp rfl)) ?_
 rw [yU]
theorem all1_int (x : Int) (b : Bool) (g : FuncId) (fi ca : List D) (hp : PureAt Tryz.prog g (fi ++ [.int .i64 x] ++ ca) (.bool b)) : PureAt Tryz.prog 127 [.int .i64 x, .ptr [.fn (.func g) fi ca]] (.bool (!b)) := by
 refine PureAt.of_awp Tryz.func127 rfl (by kernel_rfl) (Nat.le_of_ble_eq_true rfl) fun Γ hn hl => ?_
 refine zC (zB ?_)
 refine sq rfl rfl hn rfl (zF rfl rfl) ?_
 refine zE (zA (zC (zB ?_)))
 refine sq rfl rfl hn rfl (zR rfl rfl Tryz.underlying110 rfl seesF0) ?_
 refine sq rfl rfl hn rfl (zG rfl rfl) ?_
 refine stepW (s_call [] (fun _ => hp) rfl (zI rfl) rfl (nb hn rfl) (fun _ => trivial) rfl rfl (.refl _)) fun _ => ?_
 refine sq rfl rfl hn rfl (yF rfl rfl) ?_
 refine sq rfl rfl hn rfl (zF rfl rfl) ?_
 refine zE (zA (zO ?_))
 exact zt (.inl rfl) hl rfl (.tmp rfl)
theorem all_int (l : List Int) (p : Int → Bool) (g : FuncId) (fi ca : List D) (hp : ∀ x ∈ l, PureAt Tryz.prog g (fi ++ [.int .i64 x] ++ ca) (.bool (p x))) : PureAt Tryz.prog 95 [ints l, .fn (.func g) fi ca] (.bool (l.all p)) := by
 refine PureAt.of_awp Tryz.func95 rfl (by kernel_rfl) (Nat.le_of_ble_eq_true rfl) fun Γ hn hl => ?_
 refine zC (zB ?_)
 refine stepW (zr 3 rfl rfl rfl (nb hn rfl) rfl rfl) fun b3 => ?_
 refine sq rfl rfl hn rfl (zF rfl rfl) ?_
 refine zE (zA (zC (zB ?_)))
 refine sq rfl rfl hn rfl (zG rfl rfl) ?_
 refine kM (zn (t := 3) 3 rfl (nb hn rfl) rfl rfl trivial) ?_
 refine sq rfl rfl hn rfl (yE rfl rfl rfl) ?_
 refine stepW (s_call [] (fun _ => ki l (fun x => !p x) _ [] [.ptr [.fn (.func g) fi ca]] (fun x hx => all1_int x _ g fi ca (hp x hx))) rfl (zI rfl) rfl (nb hn rfl) (fun _ => trivial) rfl rfl (.refl _)) fun _ => ?_
 refine sq rfl rfl hn rfl (yF rfl rfl) ?_
 refine sq rfl rfl hn rfl (zF rfl rfl) ?_
 refine zE (zA (zO ?_))
 refine zp (zt (.inl rfl) hl rfl (.tmp rfl)) ?_
 rw [List.all_eq_not_any_not]
theorem IndexFunc_ent (l : List Ent5) (p : Ent5 → Bool) (g : FuncId) (fi ca : List D) (hp : ∀ x ∈ l, PureAt Tryz.prog g (fi ++ [.agg (entE x)] ++ ca) (.bool (p x))) : PureAt Tryz.prog 147 [entsD l, .fn (.func g) fi ca] (.int .i64 (idxOf p l)) := by
 refine PureAt.of_awp' Tryz.func147 rfl (by kernel_rfl) rfl fun hlen Γ hn hl => ?_
 have hl5 := hlen.1; simp only [List.length_map] at hl5
 refine zC (zB ?_)
 refine sq rfl rfl hn rfl (zF rfl rfl) ?_
 refine zE (zA (zC (zC (zB ?_))))
 refine sq rfl rfl hn rfl (zG rfl rfl) ?_
 refine sq rfl rfl hn rfl (z7 rfl rfl Tryz.underlying41) ?_
 refine sq rfl rfl hn rfl (zG rfl rfl) ?_
 refine zE (zA (zV ?_))
 refine awp_loop_on (ι := { i : Nat // i ≤ l.length ∧ (l.take i).all (fun x => !p x) = true }) (fun i => (8, true, .d (.int .i64 (i.1 : Int))) :: anys [9, 10, 5, 11, 12, 13, 14, 15, 16, 18]) (fun i => []) (fun i => l.length - i.1) ⟨0, by simp⟩ ⟨.inl rfl, zJ _⟩ trivial ?_
 rintro ⟨i, hi, hall⟩
 dsimp only
 refine zC (zB ?_)
 refine sq rfl rfl hn rfl (yJ rfl rfl rfl) ?_
 refine zE (zA (zC ?_))
 refine zS rfl (fun hb0 => ?_) (fun hb0 => ?_)
 ·
  try simp only [decide_eq_true_eq, decide_eq_false_iff_not, Bool.and_eq_true, Bool.or_eq_true, Bool.and_eq_false_iff, Bool.or_eq_false_iff, Bool.not_eq_true', Bool.not_eq_false', beq_iff_eq, bne_iff_ne, ne_eq, beq_eq_false_iff_ne, bne_eq_false_iff_eq, Int.not_lt, Int.not_le] at hb0
  have hlt : i < l.length := by simpa using hb0
  obtain ⟨x, hx⟩ := z2 hlt
  refine zU (zA (zC (zV (zC (zB ?_)))))
  refine sq rfl rfl hn rfl (zG rfl rfl) ?_
  refine sq rfl rfl hn rfl (zF rfl rfl) ?_
  refine zE (zA (zC (zB ?_)))
  refine sq rfl rfl hn rfl (zG rfl rfl) ?_
  refine sq rfl rfl hn rfl (zG rfl rfl) ?_
  refine sq rfl rfl hn rfl (zG rfl rfl) ?_
  refine sq rfl rfl hn rfl (q_index rfl rfl rfl Tryz.underlying41 sz87 rfl (mget hx)) ?_
  refine sq rfl rfl hn rfl (ze rfl rfl Tryz.underlying87 rfl sz87 rfl rfl seesF0) ?_
  refine stepW (s_call [] (fun _ => hp x (List.mem_of_getElem? hx)) rfl (zI rfl) rfl (nb hn rfl) (fun _ => trivial) rfl rfl (.refl _)) fun _ => ?_
  refine zE (zA ?_)
  refine zS rfl (fun hb1 => ?_) (fun hb1 => ?_)
  ·
   try simp only [decide_eq_true_eq, decide_eq_false_iff_not, Bool.and_eq_true, Bool.or_eq_true, Bool.and_eq_false_iff, Bool.or_eq_false_iff, Bool.not_eq_true', Bool.not_eq_false', beq_iff_eq, bne_iff_ne, ne_eq, beq_eq_false_iff_ne, bne_eq_false_iff_eq, Int.not_lt, Int.not_le] at hb1
   refine zC (zB ?_)
   refine sq rfl rfl hn rfl (zG rfl rfl) ?_
   refine sq rfl rfl hn rfl (zF rfl rfl) ?_
   refine zE (zA (zO (zf (zL (zL (zf (zL ?_)))))))
   refine zp (zt (.inl rfl) hl rfl (.tmp rfl)) ?_
   rw [yu hx hall (by simpa using hb1)]
  ·
   try simp only [decide_eq_true_eq, decide_eq_false_iff_not, Bool.and_eq_true, Bool.or_eq_true, Bool.and_eq_false_iff, Bool.or_eq_false_iff, Bool.not_eq_true', Bool.not_eq_false', beq_iff_eq, bne_iff_ne, ne_eq, beq_eq_false_iff_ne, bne_eq_false_iff_eq, Int.not_lt, Int.not_le] at hb1
   refine zU (za (zA (zB ?_)))
   refine sq rfl rfl hn rfl (z6 rfl rfl rfl (r := ((i + 1 : Nat) : Int)) (i64w (by omega) (by omega))) ?_
   refine sq rfl rfl hn rfl (zG rfl rfl) ?_
   refine zE ?_
   exact zZ ⟨i + 1, by omega, yN hx hall (by simp [hb1])⟩ ⟨.inl rfl, zJ _⟩ trivial (by simp only; omega) (by repeat (first | exact kr _ | refine kc rfl ?_)) (by repeat (first | exact kr _ | refine kc rfl ?_))
 ·
  try simp only [decide_eq_true_eq, decide_eq_false_iff_not, Bool.and_eq_true, Bool.or_eq_true, Bool.and_eq_false_iff, Bool.or_eq_false_iff, Bool.not_eq_true', Bool.not_eq_false', beq_iff_eq, bne_iff_ne, ne_eq, beq_eq_false_iff_ne, bne_eq_false_iff_eq, Int.not_lt, Int.not_le] at hb0
  refine zw (zK (zK (zW (zA (zC (zB ?_))))))
  refine sq rfl rfl hn rfl (zF rfl rfl) ?_
  refine zE (zA (zO ?_))
  refine zp (zt (.inl rfl) hl rfl (.tmp rfl)) ?_
  have hi2 : i = l.length := by simp only [List.length_map] at hb0; omega
  subst hi2; rw [List.take_length] at hall; rw [ye hall]
theorem ContainsFunc_ent (l : List Ent5) (p : Ent5 → Bool) (g : FuncId) (fi ca : List D) (hp : ∀ x ∈ l, PureAt Tryz.prog g (fi ++ [.agg (entE x)] ++ ca) (.bool (p x))) : PureAt Tryz.prog 128 [entsD l, .fn (.func g) fi ca] (.bool (l.any p)) := by
 refine PureAt.of_awp Tryz.func128 rfl (by kernel_rfl) (Nat.le_of_ble_eq_true rfl) fun Γ hn hl => ?_
 refine zC (zB ?_)
 refine sq rfl rfl hn rfl (zF rfl rfl) ?_
 refine zE (zA (zC (zB ?_)))
 refine sq rfl rfl hn rfl (zG rfl rfl) ?_
 refine sq rfl rfl hn rfl (zG rfl rfl) ?_
 refine stepW (s_call [] (fun _ => IndexFunc_ent l p g fi ca hp) rfl (zI rfl) rfl (nb hn rfl) (fun _ => trivial) rfl rfl (.refl _)) fun _ => ?_
 refine sq rfl rfl hn rfl (zCP rfl rfl rfl) ?_
 refine sq rfl rfl hn rfl (zF rfl rfl) ?_
 refine zE (zA (zO ?_))
 refine zp (zt (.inl rfl) hl rfl (.tmp rfl)) ?_
 rw [yU]
theorem all1_ent (x : Ent5) (b : Bool) (g : FuncId) (fi ca : List D) (hp : PureAt Tryz.prog g (fi ++ [.agg (entE x)] ++ ca) (.bool b)) : PureAt Tryz.prog 129 [.agg (entE x), .ptr [.fn (.func g) fi ca]] (.bool (!b)) := by
 refine PureAt.of_awp Tryz.func129 rfl (by kernel_rfl) (Nat.le_of_ble_eq_true rfl) fun Γ hn hl => ?_
 refine zC (zB ?_)
 refine stepW (zr 2 rfl rfl rfl (nb hn rfl) rfl rfl) fun b2 => ?_
 refine sq rfl rfl hn rfl (zF rfl rfl) ?_
 refine zE (zA (zC (zB ?_)))
 refine sq rfl rfl hn rfl (zR rfl rfl Tryz.underlying159 rfl seesF0) ?_
 refine sq rfl rfl hn rfl (zY rfl rfl (id := 2) rfl Tryz.underlying87 rfl sz87 rfl rfl sees0) ?_
 refine stepW (s_call [] (fun _ => hp) rfl (zI rfl) rfl (nb hn rfl) (fun _ => trivial) rfl rfl (.refl _)) fun _ => ?_
 refine sq rfl rfl hn rfl (yF rfl rfl) ?_
 refine sq rfl rfl hn rfl (zF rfl rfl) ?_
 refine zE (zA (zO ?_))
 exact zt (.inl rfl) hl rfl (.tmp rfl)
theorem all_ent (l : List Ent5) (p : Ent5 → Bool) (g : FuncId) (fi ca : List D) (hp : ∀ x ∈ l, PureAt Tryz.prog g (fi ++ [.agg (entE x)] ++ ca) (.bool (p x))) : PureAt Tryz.prog 96 [entsD l, .fn (.func g) fi ca] (.bool (l.all p)) := by
 refine PureAt.of_awp Tryz.func96 rfl (by kernel_rfl) (Nat.le_of_ble_eq_true rfl) fun Γ hn hl => ?_
 refine zC (zB ?_)
 refine stepW (zr 3 rfl rfl rfl (nb hn rfl) rfl rfl) fun b3 => ?_
 refine sq rfl rfl hn rfl (zF rfl rfl) ?_
 refine zE (zA (zC (zB ?_)))
 refine sq rfl rfl hn rfl (zG rfl rfl) ?_
 refine kM (zn (t := 3) 3 rfl (nb hn rfl) rfl rfl trivial) ?_
 refine sq rfl rfl hn rfl (yE rfl rfl rfl) ?_
 refine stepW (s_call [] (fun _ => ContainsFunc_ent l (fun x => !p x) _ [] [.ptr [.fn (.func g) fi ca]] (fun x hx => all1_ent x _ g fi ca (hp x hx))) rfl (zI rfl) rfl (nb hn rfl) (fun _ => trivial) rfl rfl (.refl _)) fun _ => ?_
 refine sq rfl rfl hn rfl (yF rfl rfl) ?_
 refine sq rfl rfl hn rfl (zF rfl rfl) ?_
 refine zE (zA (zO ?_))
 refine zp (zt (.inl rfl) hl rfl (.tmp rfl)) ?_
 rw [List.all_eq_not_any_not]
theorem IndexFunc_sight (l : List Sight5) (p : Sight5 → Bool) (g : FuncId) (fi ca : List D) (hp : ∀ x ∈ l, PureAt Tryz.prog g (fi ++ [.agg (sightE x)] ++ ca) (.bool (p x))) : PureAt Tryz.prog 148 [sightsD l, .fn (.func g) fi ca] (.int .i64 (idxOf p l)) := by
 refine PureAt.of_awp' Tryz.func148 rfl (by kernel_rfl) rfl fun hlen Γ hn hl => ?_
 have hl5 := hlen.1; simp only [List.length_map] at hl5
 refine zC (zB ?_)
 refine sq rfl rfl hn rfl (zF rfl rfl) ?_
 refine zE (zA (zC (zC (zB ?_))))
 refine sq rfl rfl hn rfl (zG rfl rfl) ?_
 refine sq rfl rfl hn rfl (z7 rfl rfl Tryz.underlying42) ?_
 refine sq rfl rfl hn rfl (zG rfl rfl) ?_
 refine zE (zA (zV ?_))
 refine awp_loop_on (ι := { i : Nat // i ≤ l.length ∧ (l.take i).all (fun x => !p x) = true }) (fun i => (8, true, .d (.int .i64 (i.1 : Int))) :: anys [9, 10, 5, 11, 12, 13, 14, 15, 16, 18]) (fun i => []) (fun i => l.length - i.1) ⟨0, by simp⟩ ⟨.inl rfl, zJ _⟩ trivial ?_
 rintro ⟨i, hi, hall⟩
 dsimp only
 refine zC (zB ?_)
 refine sq rfl rfl hn rfl (yJ rfl rfl rfl) ?_
 refine zE (zA (zC ?_))
 refine zS rfl (fun hb0 => ?_) (fun hb0 => ?_)
 ·
  try simp only [decide_eq_true_eq, decide_eq_false_iff_not, Bool.and_eq_true, Bool.or_eq_true, Bool.and_eq_false_iff, Bool.or_eq_false_iff, Bool.not_eq_true', Bool.not_eq_false', beq_iff_eq, bne_iff_ne, ne_eq, beq_eq_false_iff_ne, bne_eq_false_iff_eq, Int.not_lt, Int.not_le] at hb0
  have hlt : i < l.length := by simpa using hb0
  obtain ⟨x, hx⟩ := z2 hlt
  refine zU (zA (zC (zV (zC (zB ?_)))))
  refine sq rfl rfl hn rfl (zG rfl rfl) ?_
  refine sq rfl rfl hn rfl (zF rfl rfl) ?_
  refine zE (zA (zC (zB ?_)))
  refine sq rfl rfl hn rfl (zG rfl rfl) ?_
  refine sq rfl rfl hn rfl (zG rfl rfl) ?_
  refine sq rfl rfl hn rfl (zG rfl rfl) ?_
  refine sq rfl rfl hn rfl (q_index rfl rfl rfl Tryz.underlying42 sz90 rfl (mget hx)) ?_
  refine sq rfl rfl hn rfl (ze rfl rfl Tryz.underlying90 rfl sz90 rfl rfl seesF0) ?_
  refine stepW (s_call [] (fun _ => hp x (List.mem_of_getElem? hx)) rfl (zI rfl) rfl (nb hn rfl) (fun _ => trivial) rfl rfl (.refl _)) fun _ => ?_
  refine zE (zA ?_)
  refine zS rfl (fun hb1 => ?_) (fun hb1 => ?_)
  ·
   try simp only [decide_eq_true_eq, decide_eq_false_iff_not, Bool.and_eq_true, Bool.or_eq_true, Bool.and_eq_false_iff, Bool.or_eq_false_iff, Bool.not_eq_true', Bool.not_eq_false', beq_iff_eq, bne_iff_ne, ne_eq, beq_eq_false_iff_ne, bne_eq_false_iff_eq, Int.not_lt, Int.not_le] at hb1
   refine zC (zB ?_)
   refine sq rfl rfl hn rfl (zG rfl rfl) ?_
   refine sq rfl rfl hn rfl (zF rfl rfl) ?_
   refine zE (zA (zO (zf (zL (zL (zf (zL ?_)))))))
   refine zp (zt (.inl rfl) hl rfl (.tmp rfl)) ?_
   rw [yu hx hall (by simpa using hb1)]
  ·
   try simp only [decide_eq_true_eq, decide_eq_false_iff_not, Bool.and_eq_true, Bool.or_eq_true, Bool.and_eq_false_iff, Bool.or_eq_false_iff, Bool.not_eq_true', Bool.not_eq_false', beq_iff_eq, bne_iff_ne, ne_eq, beq_eq_false_iff_ne, bne_eq_false_iff_eq, Int.not_lt, Int.not_le] at hb1
   refine zU (za (zA (zB ?_)))
   refine sq rfl rfl hn rfl (z6 rfl rfl rfl (r := ((i + 1 : Nat) : Int)) (i64w (by omega) (by omega))) ?_
   refine sq rfl rfl hn rfl (zG rfl rfl) ?_
   refine zE ?_
   exact zZ ⟨i + 1, by omega, yN hx hall (by simp [hb1])⟩ ⟨.inl rfl, zJ _⟩ trivial (by simp only; omega) (by repeat (first | exact kr _ | refine kc rfl ?_)) (by repeat (first | exact kr _ | refine kc rfl ?_))
 ·
  try simp only [decide_eq_true_eq, decide_eq_false_iff_not, Bool.and_eq_true, Bool.or_eq_true, Bool.and_eq_false_iff, Bool.or_eq_false_iff, Bool.not_eq_true', Bool.not_eq_false', beq_iff_eq, bne_iff_ne, ne_eq, beq_eq_false_iff_ne, bne_eq_false_iff_eq, Int.not_lt, Int.not_le] at hb0
  refine zw (zK (zK (zW (zA (zC (zB ?_))))))
  refine sq rfl rfl hn rfl (zF rfl rfl) ?_
  refine zE (zA (zO ?_))
  refine zp (zt (.inl rfl) hl rfl (.tmp rfl)) ?_
  have hi2 : i = l.length := by simp only [List.length_map] at hb0; omega
  subst hi2; rw [List.take_length] at hall; rw [ye hall]
theorem ContainsFunc_sight (l : List Sight5) (p : Sight5 → Bool) (g : FuncId) (fi ca : List D) (hp : ∀ x ∈ l, PureAt Tryz.prog g (fi ++ [.agg (sightE x)] ++ ca) (.bool (p x))) : PureAt Tryz.prog 130 [sightsD l, .fn (.func g) fi ca] (.bool (l.any p)) := by
 refine PureAt.of_awp Tryz.func130 rfl (by kernel_rfl) (Nat.le_of_ble_eq_true rfl) fun Γ hn hl => ?_
 refine zC (zB ?_)
 refine sq rfl rfl hn rfl (zF rfl rfl) ?_
 refine zE (zA (zC (zB ?_)))
 refine sq rfl rfl hn rfl (zG rfl rfl) ?_
 refine sq rfl rfl hn rfl (zG rfl rfl) ?_
 refine stepW (s_call [] (fun _ => IndexFunc_sight l p g fi ca hp) rfl (zI rfl) rfl (nb hn rfl) (fun _ => trivial) rfl rfl (.refl _)) fun _ => ?_
 refine sq rfl rfl hn rfl (zCP rfl rfl rfl) ?_
 refine sq rfl rfl hn rfl (zF rfl rfl) ?_
 refine zE (zA (zO ?_))
 refine zp (zt (.inl rfl) hl rfl (.tmp rfl)) ?_
 rw [yU]
theorem all1_sight (x : Sight5) (b : Bool) (g : FuncId) (fi ca : List D) (hp : PureAt Tryz.prog g (fi ++ [.agg (sightE x)] ++ ca) (.bool b)) : PureAt Tryz.prog 131 [.agg (sightE x), .ptr [.fn (.func g) fi ca]] (.bool (!b)) := by
 refine PureAt.of_awp Tryz.func131 rfl (by kernel_rfl) (Nat.le_of_ble_eq_true rfl) fun Γ hn hl => ?_
 refine zC (zB ?_)
 refine stepW (zr 2 rfl rfl rfl (nb hn rfl) rfl rfl) fun b2 => ?_
 refine sq rfl rfl hn rfl (zF rfl rfl) ?_
 refine zE (zA (zC (zB ?_)))
 refine sq rfl rfl hn rfl (zR rfl rfl Tryz.underlying160 rfl seesF0) ?_
 refine sq rfl rfl hn rfl (zY rfl rfl (id := 2) rfl Tryz.underlying90 rfl sz90 rfl rfl sees0) ?_
 refine stepW (s_call [] (fun _ => hp) rfl (zI rfl) rfl (nb hn rfl) (fun _ => trivial) rfl rfl (.refl _)) fun _ => ?_
 refine sq rfl rfl hn rfl (yF rfl rfl) ?_
 refine sq rfl rfl hn rfl (zF rfl rfl) ?_
 refine zE (zA (zO ?_))
 exact zt (.inl rfl) hl rfl (.tmp rfl)
theorem zCn (l : List Sight5) (p : Sight5 → Bool) (g : FuncId) (fi ca : List D) (hp : ∀ x ∈ l, PureAt Tryz.prog g (fi ++ [.agg (sightE x)] ++ ca) (.bool (p x))) : PureAt Tryz.prog 97 [sightsD l, .fn (.func g) fi ca] (.bool (l.all p)) := by
 refine PureAt.of_awp Tryz.func97 rfl (by kernel_rfl) (Nat.le_of_ble_eq_true rfl) fun Γ hn hl => ?_
 refine zC (zB ?_)
 refine stepW (zr 3 rfl rfl rfl (nb hn rfl) rfl rfl) fun b3 => ?_
 refine sq rfl rfl hn rfl (zF rfl rfl) ?_
 refine zE (zA (zC (zB ?_)))
 refine sq rfl rfl hn rfl (zG rfl rfl) ?_
 refine kM (zn (t := 3) 3 rfl (nb hn rfl) rfl rfl trivial) ?_
 refine sq rfl rfl hn rfl (yE rfl rfl rfl) ?_
 refine stepW (s_call [] (fun _ => ContainsFunc_sight l (fun x => !p x) _ [] [.ptr [.fn (.func g) fi ca]] (fun x hx => all1_sight x _ g fi ca (hp x hx))) rfl (zI rfl) rfl (nb hn rfl) (fun _ => trivial) rfl rfl (.refl _)) fun _ => ?_
 refine sq rfl rfl hn rfl (yF rfl rfl) ?_
 refine sq rfl rfl hn rfl (zF rfl rfl) ?_
 refine zE (zA (zO ?_))
 refine zp (zt (.inl rfl) hl rfl (.tmp rfl)) ?_
 rw [List.all_eq_not_any_not]
theorem y6 (r : Reg) : PureAt Tryz.prog 67 [regD r] (.int .i64 (checkE r)) := by
 refine PureAt.of_awp Tryz.func67 rfl (by kernel_rfl) (Nat.le_of_ble_eq_true rfl) fun Γ hn hl => ?_
 refine zC (zB ?_)
 refine stepW (zr 1 rfl rfl rfl (nb hn rfl) rfl rfl) fun b1 => ?_
 refine sq rfl rfl hn rfl (zF rfl rfl) ?_
 refine zE (zA (zC ?_))
 refine yC (W := fun b => b ≠ b1) fmo ?_
 refine d1q (i := 0) rfl (by kernel_rfl) (fun _ _ _ _ h => h) rfl rfl hn rfl (zY rfl rfl (id := 1) rfl Tryz.underlying44 rfl sz44 rfl rfl (seesA (by simp))) ?_
 refine d1q (i := 1) rfl (by kernel_rfl) (fun _ _ _ _ h => h) rfl rfl hn rfl (yE rfl rfl rfl) ?_
 refine d1q (i := 2) rfl (by kernel_rfl) (fun _ _ _ _ h => h) rfl rfl hn rfl (zY rfl rfl (id := 1) rfl Tryz.underlying44 rfl sz44 rfl rfl (seesA (by simp))) ?_
 refine d1q (i := 3) rfl (by kernel_rfl) (fun _ _ _ _ h => h) rfl rfl hn rfl (yE rfl rfl rfl) ?_
 refine d1q (i := 4) rfl (by kernel_rfl) (fun _ _ _ _ h => h) rfl rfl hn rfl (zY rfl rfl (id := 1) rfl Tryz.underlying44 rfl sz44 rfl rfl (seesA (by simp))) ?_
 refine d1q (i := 5) rfl (by kernel_rfl) (fun _ _ _ _ h => h) rfl rfl hn rfl (yE rfl rfl rfl) ?_
 refine d1q (i := 6) rfl (by kernel_rfl) (fun _ _ _ _ h => h) rfl rfl hn rfl (zF rfl rfl) ?_
 refine d1q (i := 7) rfl (by kernel_rfl) (fun _ _ _ _ h => h) rfl rfl hn rfl (zF rfl rfl) ?_
 refine d1q (i := 8) rfl (by kernel_rfl) (fun _ _ _ _ h => h) rfl rfl hn rfl (zF rfl rfl) ?_
 refine zM ?_
 refine zv (by kernel_rfl) ?_
 refine zA (zC (zV (zC (zB ?_))))
 refine sq rfl rfl hn rfl (zH rfl rfl Tryz.underlying44 rfl sz3) ?_
 refine sq rfl rfl hn rfl (zQ rfl rfl (id := 1) rfl Tryz.underlying3 rfl rfl sees0) ?_
 refine sq rfl rfl hn rfl (zBF rfl rfl rfl) ?_
 refine sq rfl rfl hn rfl (zG rfl rfl) ?_
 refine stepG [] (zD rfl rfl rfl) rfl (nb hn rfl) (fun hc => trivial) (fun hc => zH rfl rfl Tryz.underlying44 rfl sz22) ?_
 refine stepG [(17, _)] (zD rfl rfl rfl) rfl (nb hn rfl) (fun hc => ⟨⟨_, rfl, hc⟩, trivial⟩) (fun hc => zQ rfl rfl (id := 1) rfl Tryz.underlying22 rfl rfl sees0) ?_
 refine stepG [(18, _)] (zD rfl rfl rfl) rfl (nb hn rfl) (fun hc => ⟨⟨_, rfl, hc⟩, trivial⟩) (fun hc => z7 rfl rfl Tryz.underlying22) ?_
 refine stepG [(19, _)] (zD rfl rfl rfl) rfl (nb hn rfl) (fun hc => ⟨⟨_, rfl, hc⟩, trivial⟩) (fun hc => zBF rfl rfl rfl) ?_
 refine sq rfl rfl hn rfl (q_or rfl rfl rfl (by simp_all)) ?_
 refine sq rfl rfl hn rfl (zG rfl rfl) ?_
 refine stepG [] (zD rfl rfl rfl) rfl (nb hn rfl) (fun hc => trivial) (fun hc => zH rfl rfl Tryz.underlying44 rfl sz41) ?_
 refine stepG [(23, _)] (zD rfl rfl rfl) rfl (nb hn rfl) (fun hc => ⟨⟨_, rfl, hc⟩, trivial⟩) (fun hc => zQ rfl rfl (id := 1) rfl Tryz.underlying41 rfl rfl sees0) ?_
 refine stepG [(24, _)] (zD rfl rfl rfl) rfl (nb hn rfl) (fun hc => ⟨⟨_, rfl, hc⟩, trivial⟩) (fun hc => z7 rfl rfl Tryz.underlying41) ?_
 refine stepG [(25, _)] (zD rfl rfl rfl) rfl (nb hn rfl) (fun hc => ⟨⟨_, rfl, hc⟩, trivial⟩) (fun hc => zBF rfl rfl rfl) ?_
 refine sq rfl rfl hn rfl (q_or rfl rfl rfl (by simp_all)) ?_
 refine sq rfl rfl hn rfl (zG rfl rfl) ?_
 refine stepG [] (zD rfl rfl rfl) rfl (nb hn rfl) (fun hc => trivial) (fun hc => zH rfl rfl Tryz.underlying44 rfl sz42) ?_
 refine stepG [(29, _)] (zD rfl rfl rfl) rfl (nb hn rfl) (fun hc => ⟨⟨_, rfl, hc⟩, trivial⟩) (fun hc => zQ rfl rfl (id := 1) rfl Tryz.underlying42 rfl rfl sees0) ?_
 refine stepG [(30, _)] (zD rfl rfl rfl) rfl (nb hn rfl) (fun hc => ⟨⟨_, rfl, hc⟩, trivial⟩) (fun hc => z7 rfl rfl Tryz.underlying42) ?_
 refine stepG [(31, _)] (zD rfl rfl rfl) rfl (nb hn rfl) (fun hc => ⟨⟨_, rfl, hc⟩, trivial⟩) (fun hc => zBF rfl rfl rfl) ?_
 refine sq rfl rfl hn rfl (q_or rfl rfl rfl (by simp_all)) ?_
 refine sq rfl rfl hn rfl (zF rfl rfl) ?_
 refine zE (zA ?_)
 refine zS rfl (fun hb0 => ?_) (fun hb0 => ?_)
 ·
  refine zC (zB ?_)
  refine sq rfl rfl hn rfl (zF rfl rfl) ?_
  refine zE (zA (zO (zf (zL ?_))))
  refine zp (zt (.inl rfl) hl rfl (.tmp rfl)) ?_
  simp only [List.length_map] at hb0; rw [show checkE r = 3 from by unfold checkE limB; rw [hb0]; rfl]
 ·
  refine zC (zB ?_)
  refine sq rfl rfl hn rfl (zH rfl rfl Tryz.underlying44 rfl sz3) ?_
  refine sq rfl rfl hn rfl (zQ rfl rfl (id := 1) rfl Tryz.underlying3 rfl rfl sees0) ?_
  refine sq rfl rfl hn rfl (yJ rfl rfl rfl) ?_
  refine sq rfl rfl hn rfl (zG rfl rfl) ?_
  refine stepG [] (zD rfl rfl rfl) rfl (nb hn rfl) (fun hc => trivial) (fun hc => zH rfl rfl Tryz.underlying44 rfl sz22) ?_
  refine stepG [(39, _)] (zD rfl rfl rfl) rfl (nb hn rfl) (fun hc => ⟨⟨_, rfl, hc⟩, trivial⟩) (fun hc => zQ rfl rfl (id := 1) rfl Tryz.underlying22 rfl rfl sees0) ?_
  refine stepG [(40, _)] (zD rfl rfl rfl) rfl (nb hn rfl) (fun hc => ⟨⟨_, rfl, hc⟩, trivial⟩) (fun hc => z7 rfl rfl Tryz.underlying22) ?_
  refine stepG [(41, _)] (zD rfl rfl rfl) rfl (nb hn rfl) (fun hc => ⟨⟨_, rfl, hc⟩, trivial⟩) (fun hc => yG rfl rfl rfl) ?_
  refine sq rfl rfl hn rfl (q_or rfl rfl rfl (by simp_all)) ?_
  refine sq rfl rfl hn rfl (zG rfl rfl) ?_
  refine stepG [] (zD rfl rfl rfl) rfl (nb hn rfl) (fun hc => trivial) (fun hc => zH rfl rfl Tryz.underlying44 rfl sz22) ?_
  refine stepG [(45, _)] (zD rfl rfl rfl) rfl (nb hn rfl) (fun hc => ⟨⟨_, rfl, hc⟩, trivial⟩) (fun hc => zQ rfl rfl (id := 1) rfl Tryz.underlying22 rfl rfl sees0) ?_
  refine stepG [] (zD rfl rfl rfl) rfl (nb hn rfl) (fun hc => trivial) (fun hc => zG rfl rfl) ?_
  refine stepW (s_call [(46, _), (47, _)] (fun hc => all_int r.start (houseB r) 55 [regD r] [] (fun x _ => zBH r x)) rfl (zD rfl rfl rfl) rfl (nb hn rfl) (fun hc => ⟨⟨_, rfl, hc⟩, ⟨_, rfl, hc⟩, trivial⟩) rfl rfl (.refl _)) fun _ => ?_
  refine stepG [(48, _)] (zD rfl rfl rfl) rfl (nb hn rfl) (fun hc => ⟨⟨_, rfl, hc⟩, trivial⟩) (fun hc => yF rfl rfl) ?_
  refine sq rfl rfl hn rfl (q_or rfl rfl rfl (by simp_all)) ?_
  refine sq rfl rfl hn rfl (zG rfl rfl) ?_
  refine stepG [] (zD rfl rfl rfl) rfl (nb hn rfl) (fun hc => trivial) (fun hc => zH rfl rfl Tryz.underlying44 rfl sz41) ?_
  refine stepG [(52, _)] (zD rfl rfl rfl) rfl (nb hn rfl) (fun hc => ⟨⟨_, rfl, hc⟩, trivial⟩) (fun hc => zQ rfl rfl (id := 1) rfl Tryz.underlying41 rfl rfl sees0) ?_
  refine stepG [] (zD rfl rfl rfl) rfl (nb hn rfl) (fun hc => trivial) (fun hc => zG rfl rfl) ?_
  refine stepW (s_call [(53, _), (54, _)] (fun hc => all_ent r.entries (entryB r) 93 [regD r] [] (fun x _ => entry_ok r x)) rfl (zD rfl rfl rfl) rfl (nb hn rfl) (fun hc => ⟨⟨_, rfl, hc⟩, ⟨_, rfl, hc⟩, trivial⟩) rfl rfl (.refl _)) fun _ => ?_
  refine stepG [(55, _)] (zD rfl rfl rfl) rfl (nb hn rfl) (fun hc => ⟨⟨_, rfl, hc⟩, trivial⟩) (fun hc => yF rfl rfl) ?_
  refine sq rfl rfl hn rfl (q_or rfl rfl rfl (by simp_all)) ?_
  refine sq rfl rfl hn rfl (zG rfl rfl) ?_
  refine stepG [] (zD rfl rfl rfl) rfl (nb hn rfl) (fun hc => trivial) (fun hc => zH rfl rfl Tryz.underlying44 rfl sz42) ?_
  refine stepG [(59, _)] (zD rfl rfl rfl) rfl (nb hn rfl) (fun hc => ⟨⟨_, rfl, hc⟩, trivial⟩) (fun hc => zQ rfl rfl (id := 1) rfl Tryz.underlying42 rfl rfl sees0) ?_
  refine stepG [] (zD rfl rfl rfl) rfl (nb hn rfl) (fun hc => trivial) (fun hc => zG rfl rfl) ?_
  refine stepW (s_call [(60, _), (61, _)] (fun hc => zCn r.sights (sightB r) 94 [regD r] [] (fun x _ => sight_ok r x)) rfl (zD rfl rfl rfl) rfl (nb hn rfl) (fun hc => ⟨⟨_, rfl, hc⟩, ⟨_, rfl, hc⟩, trivial⟩) rfl rfl (.refl _)) fun _ => ?_
  refine stepG [(62, _)] (zD rfl rfl rfl) rfl (nb hn rfl) (fun hc => ⟨⟨_, rfl, hc⟩, trivial⟩) (fun hc => yF rfl rfl) ?_
  refine sq rfl rfl hn rfl (q_or rfl rfl rfl (by simp_all)) ?_
  refine sq rfl rfl hn rfl (zF rfl rfl) ?_
  refine zE (zA ?_)
  refine zS rfl (fun hb1 => ?_) (fun hb1 => ?_)
  ·
   refine zC (zB ?_)
   refine sq rfl rfl hn rfl (zF rfl rfl) ?_
   refine zE (zA (zO (zf (zL ?_))))
   refine zp (zt (.inl rfl) hl rfl (.tmp rfl)) ?_
   simp only [List.length_map] at hb0 hb1; rw [show checkE r = 1 from by unfold checkE limB argB; rw [hb0, hb1]; rfl]
  ·
   refine zU (za (zA (zC (zB ?_))))
   refine sq rfl rfl hn rfl (zF rfl rfl) ?_
   refine zE (zA (zO ?_))
   refine zp (zt (.inl rfl) hl rfl (.tmp rfl)) ?_
   simp only [List.length_map] at hb0 hb1; rw [show checkE r = 0 from by unfold checkE limB argB; rw [hb0, hb1]; rfl]
end Go.Proofs.YtaokpncjemkhcaaGreat
namespace Go.Proofs.YtaokpncjemkhcaaGreat
open Go.RowKit
structure Ldg where
  reg : Reg
  day : Int
  lends : List Bool
  dues : List Due8
@[reducible] def boolE (b : Bool) : List D := [.bool b]
@[reducible] def boolsD (l : List Bool) : D := .slice 1 (l.map boolE)
@[reducible] def dueE (q : Due8) : List D := [.int .i64 q.frm, .int .i64 q.to, .int .i64 q.num]
@[reducible] def duesD (l : List Due8) : D := .slice 3 (l.map dueE)
@[reducible] def ldgC (l : Ldg) : List D := [.int .i64 l.reg.houses, ints l.reg.start, entsD l.reg.entries, sightsD l.reg.sights, .int .i64 l.day, boolsD l.lends, duesD l.dues]
@[reducible] def ldgD (l : Ldg) : D := .agg (ldgC l)
/-- A hand: four numbers. -/
@[reducible] def handE (h : List Int) : List D := [.int .i64 (h.getD 0 0), .int .i64 (h.getD 1 0), .int .i64 (h.getD 2 0), .int .i64 (h.getD 3 0)]
@[reducible] def handD (h : List Int) : D := .agg (handE h)
@[reducible] def handsD (l : List (List Int)) : D := .slice 4 (l.map handE)
@[reducible] def listsD (l : List (List Int)) : D := .slice 1 (l.map fun x => [ints x])
def dueB (l : Ldg) (q : Due8) : Bool := houseB l.reg q.frm && houseB l.reg q.to && (q.frm != q.to) && (decide (1 ≤ q.num) && decide (q.num ≤ 4))
end Go.Proofs.YtaokpncjemkhcaaGreat
