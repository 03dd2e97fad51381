/-
  A part of the proof that contangolaw.TapeTruth returns true: what the last text needs, and no more. No condition: no statement of the seat is proved here.
-/
import Derived.Test.YtplpcamcnppibaaGreatDoorTapeTruthM
namespace Go.Proofs.YtplpcamcnppibaaGreatDoor
open Go.RowKit
set_option maxRecDepth 20000
set_option linter.all false
set_option maxHeartbeats 4000000
theorem checkT_of_read {b : Brd} {s : List UInt8} (h : (readI b s).2 = 0) : checkT b = 0 := by
  unfold readI at h
  cases hc : checkT b != 0
  · simpa using hc
  · rw [hc] at h
    have h : checkT b = 0 := h
    rw [h] at hc; cases hc
theorem read_short {b : Brd} {s : List UInt8} (h : (readI b s).2 = 0) : s.length ≤ 160 := by
  have v := checkT_of_read h
  rw [← ref_read v] at h
  unfold refReadI at h
  cases hc : decide (160 < (s.length : Int))
  · simp only [decide_eq_false_iff_not] at hc; omega
  · rw [hc] at h; cases h
theorem pr_len {b : Brd} {ws : List Int} {l : List Sal} (v : BrdOK b) (h8 : l.length ≤ 8) (hok : okAll b l 0 = true) : (prS b ws l).length ≤ 300 := by
  obtain ⟨h1, h2⟩ := prW_ok (ws := ws) (i := 0) (m := 0) (st := -1) hok (by omega)
  have h3 := spsW_le v h1
  have h4 := text_len v (wd := .la (prLate ws) (prLate ws + prWide ws)) (show prLate ws ≤ prLate ws + prWide ws ∧ prLate ws + prWide ws ≤ 60 by unfold prLate prWide; have := Nat.mod_lt (wrd ws 0) (show 0 < 6 by omega); have := Nat.mod_lt (wrd ws 0 / 8) (show 0 < 6 by omega); omega)
  unfold prS prT
  rw [spsW_app, spsW_o]
  cases prRush ws <;> simp only [cond_false, cond_true, Wd.text, List.length_append, List.length_cons, List.length_nil] at h4 ⊢ <;> omega
theorem ready_is {b : Brd} (h : readyB b = true) : checkT b = 0 ∧ b.stocks.length ≤ 7 := by
  unfold readyB at h
  rw [Bool.and_eq_true, beq_iff_eq] at h
  exact ⟨h.2, (thin_bd (n := 0) h.1).1⟩
theorem mis_nil {b : Brd} {l : List Prt} {ms : List Nat} (h : levelsI b l [] = some ms) : misL b l = [] := by
  refine misL_some (m := 0) (by omega) (fun k hk => by omega) ?_
  unfold misS; rw [h]; rfl
theorem prove_tru {b : Brd} {ps : List Prt} {l : List Sal} (hl : ps.length = l.length) (h : TruF b ps 0 (fun k => (l.getD k sal0).price)) : isTruthB b ps (l.map (·.price)) 0 = true := by
  refine isTruth_iff.2 ⟨by rw [List.length_map, hl], fun j hj => (h j hj).congr ?_ fun k hk => ?_⟩
  · obtain ⟨s, hs⟩ := ex_get (show j < l.length by omega)
    try dsimp only
    rw [getD_of hs, getD_of (l := l.map (·.price)) (x := s.price) (by rw [List.getElem?_map, hs]; rfl)]
  · have hk : aheadGo ps (ps.getD j prt0).stock j = (k : Nat) := hk
    have hkj := (ahead_iff.1 hk).1
    obtain ⟨s, hs⟩ := ex_get (show k < l.length by omega)
    try dsimp only
    rw [getD_of hs, getD_of (l := l.map (·.price)) (x := s.price) (by rw [List.getElem?_map, hs]; rfl)]
theorem minutes_err {b : Brd} {s : List UInt8} (h : (readI b s).2 = 0) : (minutesI b s).2 = 0 ∨ (minutesI b s).2 = 11 := by
  unfold minutesI
  rw [h]
  cases rightB (minI (readI b s).1)
  · right; rfl
  · left; rfl
structure TruthL (b : Brd) (s : List UInt8) (l : List Sal) (R : List Prt) (ms : List Nat) : Prop where
  rd : readI b s = (R, 0)
  sy : PrSays R l
  lv : levelsI b R [] = some ms
  pr : pricesI b s = (ms.map bndN, 0)
  mi : misI b s = ([], 0)
  pv : proveI b s (l.map (·.price)) = true
  bd : ∀ i, i < l.length → (bndN (ms.getD i 0)).1 ≤ (l.getD i sal0).price ∧ (l.getD i sal0).price ≤ (bndN (ms.getD i 0)).2
theorem truth_of {b : Brd} {s : List UInt8} {l : List Sal} {R : List Prt} (v : BrdOK b) (hr : readI b s = (R, 0)) (hs : PrSays R l) (hj : JumpOK b l) : ∃ ms, TruthL b s l R ms := by
  have hpo := (read_prts (b := b) (s := s)).1
  rw [hr] at hpo
  have htr := says_tru hs hj
  obtain ⟨ms, hms⟩ := Option.isSome_iff_exists.1 ((levels_iff (out := []) (o := 0) out_nil v hpo).1.2 ⟨_, htr⟩)
  refine ⟨ms, hr, hs, hms, ?_, ?_, ?_, fun i hi => ?_⟩
  · unfold pricesI; rw [hr]; simp only [bne_self_eq_false, cond_false]; rw [hms]
  · unfold misI; rw [hr]; simp only [bne_self_eq_false, cond_false]; rw [mis_nil hms]
  · rw [prove_law, hr, prove_tru hs.len htr]; rfl
  · obtain ⟨lo, hi2, e, _, _, hall⟩ := lvl_bnd (out := []) (o := 0) out_nil v hpo hms (i := i) (by rw [hs.len]; exact hi)
    rw [e]
    exact hall _ htr
theorem truth_law {b : Brd} {ws : List Int} {l : List Sal} (h0 : checkT b = 0) (hl : SoldOK b l) (hr : (readI b (prS b ws l)).2 = 0) : ∃ R ms, TruthL b (prS b ws l) l R ms := by
  have hrd := printed_read (ws := ws) h0 (by have := hl.l7; omega) hl.ok (read_short hr)
  obtain ⟨ms, h⟩ := truth_of (valid_of h0) hrd (pr_says (valid_of h0) hl.ok) hl.jump
  exact ⟨_, ms, h⟩
theorem says_bit {b : Brd} {s : List UInt8} {l : List Sal} {R : List Prt} {ms : List Nat} (v : BrdOK b) (h : TruthL b s l R ms) {i : Nat} (hi : i < l.length) (hpo : ∀ p ∈ R, PrtOK b p) : (ms.getD i 0).testBit (l.getD i sal0).price.toNat = true := by
  have hb := fits_bd (h.sy.fit i hi)
  have hp := h.pv
  rw [prove_law, h.rd, Bool.and_eq_true] at hp
  obtain ⟨_, h2⟩ := isTruth_iff.1 hp.2
  refine ((levels_iff (out := []) (o := 0) out_nil v hpo).2 ms h.lv i (by rw [h.sy.len]; exact hi) _ (by omega)).2 ⟨_, h2, ?_⟩
  obtain ⟨x, hx⟩ := ex_get hi
  try dsimp only
  rw [getD_of hx] at hb ⊢
  rw [getD_of (l := l.map (·.price)) (x := x.price) (by rw [List.getElem?_map, hx]; rfl)]
  omega
/-- The slip of what a sale was finds it. -/
theorem find_law2 {b : Brd} {s : List UInt8} {l : List Sal} {R : List Prt} {ms : List Nat} (v : BrdOK b) (hok : okAll b l 0 = true) (h : TruthL b s l R ms) (hm : (minutesI b s).2 = 0) {i : Nat} {x : Sal} (hx : l[i]? = some x) (h1 : ((minutesI b s).1.getD i (0, 0)).1 ≤ x.minute) (h2 : x.minute ≤ ((minutesI b s).1.getD i (0, 0)).2) :
    ∃ fl, findI b s ⟨x.stock, x.price, x.number, x.minute, x.minute⟩ = (fl, 0) ∧ ((i : Nat) : Int) ∈ fl ∧ fl.length ≤ 8 := by
  have hil := (List.getElem?_eq_some_iff.1 hx).1
  obtain ⟨b1, b2, b3, b4, b5⟩ := okAll_bd hok hx
  have hpo := (read_prts (b := b) (s := s)).1
  have hl8 := (read_prts (b := b) (s := s)).2
  rw [h.rd] at hpo hl8
  have hiR : i < R.length := by rw [h.sy.len]; exact hil
  have hsl : slipB b ⟨x.stock, x.price, x.number, x.minute, x.minute⟩ = true := by
    unfold slipB spansB
    simp only [Bool.and_eq_true, within_iff, decide_eq_true_eq]; omega
  have hmin : minutesI b s = (minI R, 0) ∧ rightB (minI R) = true := by
    have e : minutesI b s = bif rightB (minI R) then (minI R, 0) else ([], 11) := by unfold minutesI; rw [h.rd]; rfl
    rw [e] at hm ⊢
    cases hc : rightB (minI R)
    · rw [hc] at hm; cases hm
    · exact ⟨rfl, rfl⟩
  rw [hmin.1] at h1 h2
  have e : findI b s ⟨x.stock, x.price, x.number, x.minute, x.minute⟩ = (findL R ms (minI R) ⟨x.stock, x.price, x.number, x.minute, x.minute⟩ R.length, 0) := by
    unfold findI
    rw [h.rd, hsl]
    simp only [bne_self_eq_false, cond_false, Bool.not_true]
    rw [h.lv]
    simp only
    rw [hmin.2]; rfl
  refine ⟨_, e, ?_, Nat.le_trans findL_len hl8⟩
  unfold findL
  refine List.mem_map.2 ⟨i, List.mem_filter.2 ⟨List.mem_range.2 hiR, ?_⟩, rfl⟩
  unfold findF findB
  have q1 := h.sy.st i hil
  have q2 := h.sy.num i hil
  have q3 := says_bit v h hil hpo
  rw [getD_of hx] at q1 q2 q3
  show (((R.getD i prt0).stock == x.stock && withinB x.number (R.getD i prt0).nlo (R.getD i prt0).nhi && (ms.getD i 0).testBit x.price.toNat && decide (((minI R).getD i (0, 0)).1 ≤ x.minute) && decide (x.minute ≤ ((minI R).getD i (0, 0)).2))) = true
  rw [show ((R.getD i prt0).stock == x.stock) = true by simpa using q1, within_iff.2 q2, q3, decide_eq_true h1, decide_eq_true h2]
  rfl
theorem hc_f {c : Bool} (h : (true && (c == false)) = true) : c = false := by cases c <;> simp at h ⊢
theorem m_get {L : List (Int × Int)} {l : List Sal} {c : Bool} {i : Nat} (h : (c || (((L.map rngE).length : Int) != ((l.map salE).length : Int))) = false) (hi : i < l.length) : L[i]? = some (L.getD i (0, 0)) := by
  simp only [Bool.or_eq_false_iff, bne_eq_false_iff_eq, List.length_map] at h
  obtain ⟨x, hx⟩ := ex_get (show i < L.length by omega)
  rw [hx, getD_of hx]
theorem Sold_ok (b : Brd) (ws : List Int) (v : BrdOK b) (hw : WdsOK ws) : PureAt Tryz.prog 45 [brdD b, wdsD ws] (salsD (soldL b ws)) := PureAt.of_eff (ds := [brdD b, wdsD ws]) (Sold_eff b ws v hw)
theorem has_step {fl : List Int} {n : Nat} {y a : Int} (hy : fl[n]? = some y) : ((fl.take n).contains a || (y == a)) = (fl.take (n + 1)).contains a := by
  rw [List.take_add_one, hy]
  show _ = (fl.take n ++ [y]).contains a
  rw [Bool.eq_iff_iff, Bool.or_eq_true, List.contains_iff_mem, List.contains_iff_mem, List.mem_append, List.mem_singleton, beq_iff_eq]
  exact ⟨fun h => h.elim .inl fun h => .inr h.symm, fun h => h.elim .inl fun h => .inr h.symm⟩
theorem TapeTruth_ok (b : Brd) (ws : List Int) (hN : NamesOK b) (hw : WdsOK ws) : PureAt Tryz.prog 9 [brdD b, wdsD ws] (.bool true) := by
 refine PureAt.of_awp Tryz.func9 rfl (by kernel_rfl) (Nat.le_of_ble_eq_true rfl) fun Γ hn hl => ?_
 refine awp_seq (awp_region ?_)
 refine stepW (s_box 2 rfl rfl rfl (nb hn rfl) rfl rfl) fun b2 => ?_
 refine sq rfl rfl hn rfl (q_assign rfl rfl) ?_
 refine run_nil (aend_then (awp_seq (awp_seq (awp_region ?_))))
 refine sq rfl rfl hn rfl (q_loadAd rfl rfl (id := 2) rfl Tryz.underlying24 rfl sz24 rfl rfl sees0) ?_
 refine stepW (s_call [] (fun _ => ready_ok b hN) rfl (guard_none rfl) rfl (nb hn rfl) (fun _ => trivial) rfl rfl (.refl _)) fun _ => ?_
 refine sq rfl rfl hn rfl (q_not rfl rfl) ?_
 refine run_nil (aend_then ?_)
 refine awp_cond rfl (fun hb0 => ?_) (fun hb0 => ?_)
 ·
  refine awp_seq (awp_region ?_)
  refine stepW (s_call [] (fun _ => awake_ok) rfl (guard_none rfl) rfl (nb hn rfl) (fun _ => trivial) rfl rfl (.refl _)) fun _ => ?_
  refine sq rfl rfl hn rfl (q_assign rfl rfl) ?_
  refine run_nil (aend_then (awp_ret (aend_then_ret ?_)))
  exact ret_1 (.inl rfl) hl rfl (.tmp rfl)
 ·
  obtain ⟨h0, hb7⟩ := ready_is (b := b) (by simpa using hb0)
  have v := valid_of h0
  have hso := soldL_ok v hw
  have hS3 := pr_len (ws := ws) v (show (soldL b ws).length ≤ 8 by have := hso.l7; omega) hso.ok
  have hl7 := hso.l7
  have hS5 : (prS b ws (soldL b ws)).length ≤ 4294967000 := by omega
  refine awp_skip (aend_then (awp_seq (awp_region ?_)))
  refine sq rfl rfl hn rfl (q_loadAd rfl rfl (id := 2) rfl Tryz.underlying24 rfl sz24 rfl rfl sees0) ?_
  refine sq rfl rfl hn rfl (q_move rfl rfl) ?_
  refine stepW (s_call [] (fun _ => Sold_ok b ws v hw) rfl (guard_none rfl) rfl (nb hn rfl) (fun _ => trivial) rfl rfl (.refl _)) fun _ => ?_
  refine sq rfl rfl hn rfl (q_assign rfl rfl) ?_
  refine run_nil (aend_then (awp_seq (awp_region ?_)))
  refine sq rfl rfl hn rfl (q_loadAd rfl rfl (id := 2) rfl Tryz.underlying24 rfl sz24 rfl rfl sees0) ?_
  refine sq rfl rfl hn rfl (q_move rfl rfl) ?_
  refine sq rfl rfl hn rfl (q_move rfl rfl) ?_
  refine stepW (s_call [] (fun _ => Printed_ok b (soldL b ws) ws v hw (by omega) hso.ok) rfl (guard_none rfl) rfl (nb hn rfl) (fun _ => trivial) rfl rfl (.refl _)) fun _ => ?_
  refine sq rfl rfl hn rfl (q_assign rfl rfl) ?_
  refine run_nil (aend_then (awp_seq (awp_region ?_)))
  refine sq rfl rfl hn rfl (q_loadAd rfl rfl (id := 2) rfl Tryz.underlying24 rfl sz24 rfl rfl sees0) ?_
  refine stepW (s_call [] (fun _ => Board_ok b (by omega)) rfl (guard_none rfl) rfl (nb hn rfl) (fun _ => trivial) rfl rfl (.refl _)) fun _ => ?_
  refine sq rfl rfl hn rfl (q_move rfl rfl) ?_
  refine stepW (s_call [] (fun _ => Read_ok b (prS b ws (soldL b ws)) hN hS5) rfl (guard_none rfl) rfl (nb hn rfl) (fun _ => trivial) rfl rfl (.refl _)) fun _ => ?_
  refine sq rfl rfl hn rfl (q_move rfl rfl) ?_
  refine sq rfl rfl hn rfl (q_extractd rfl rfl rfl) ?_
  refine sq rfl rfl hn rfl (q_extractd rfl rfl rfl) ?_
  refine sq rfl rfl hn rfl (q_assign rfl rfl) ?_
  refine sq rfl rfl hn rfl (q_assign rfl rfl) ?_
  refine run_nil (aend_then (awp_seq (awp_region ?_)))
  refine sq rfl rfl hn rfl (q_loadAd rfl rfl (id := 2) rfl Tryz.underlying24 rfl sz24 rfl rfl sees0) ?_
  refine stepW (s_call [] (fun _ => Board_ok b (by omega)) rfl (guard_none rfl) rfl (nb hn rfl) (fun _ => trivial) rfl rfl (.refl _)) fun _ => ?_
  refine sq rfl rfl hn rfl (q_move rfl rfl) ?_
  refine stepW (s_call [] (fun _ => Prices_ok b (prS b ws (soldL b ws)) hN hS5) rfl (guard_none rfl) rfl (nb hn rfl) (fun _ => trivial) rfl rfl (.refl _)) fun _ => ?_
  refine sq rfl rfl hn rfl (q_move rfl rfl) ?_
  refine sq rfl rfl hn rfl (q_extractd rfl rfl rfl) ?_
  refine sq rfl rfl hn rfl (q_extractd rfl rfl rfl) ?_
  refine sq rfl rfl hn rfl (q_assign rfl rfl) ?_
  refine sq rfl rfl hn rfl (q_assign rfl rfl) ?_
  refine run_nil (aend_then (awp_seq (awp_region ?_)))
  refine sq rfl rfl hn rfl (q_loadAd rfl rfl (id := 2) rfl Tryz.underlying24 rfl sz24 rfl rfl sees0) ?_
  refine stepW (s_call [] (fun _ => Board_ok b (by omega)) rfl (guard_none rfl) rfl (nb hn rfl) (fun _ => trivial) rfl rfl (.refl _)) fun _ => ?_
  refine sq rfl rfl hn rfl (q_move rfl rfl) ?_
  refine stepW (s_call [] (fun _ => Minutes_ok b (prS b ws (soldL b ws)) hN hS5) rfl (guard_none rfl) rfl (nb hn rfl) (fun _ => trivial) rfl rfl (.refl _)) fun _ => ?_
  refine sq rfl rfl hn rfl (q_move rfl rfl) ?_
  refine sq rfl rfl hn rfl (q_extractd rfl rfl rfl) ?_
  refine sq rfl rfl hn rfl (q_extractd rfl rfl rfl) ?_
  refine sq rfl rfl hn rfl (q_assign rfl rfl) ?_
  refine sq rfl rfl hn rfl (q_assign rfl rfl) ?_
  refine run_nil (aend_then (awp_seq (awp_region ?_)))
  refine sq rfl rfl hn rfl (q_loadAd rfl rfl (id := 2) rfl Tryz.underlying24 rfl sz24 rfl rfl sees0) ?_
  refine stepW (s_call [] (fun _ => Board_ok b (by omega)) rfl (guard_none rfl) rfl (nb hn rfl) (fun _ => trivial) rfl rfl (.refl _)) fun _ => ?_
  refine sq rfl rfl hn rfl (q_move rfl rfl) ?_
  refine stepW (s_call [] (fun _ => Misprints_ok b (prS b ws (soldL b ws)) hN hS5) rfl (guard_none rfl) rfl (nb hn rfl) (fun _ => trivial) rfl rfl (.refl _)) fun _ => ?_
  refine sq rfl rfl hn rfl (q_move rfl rfl) ?_
  refine sq rfl rfl hn rfl (q_extractd rfl rfl rfl) ?_
  refine sq rfl rfl hn rfl (q_extractd rfl rfl rfl) ?_
  refine sq rfl rfl hn rfl (q_assign rfl rfl) ?_
  refine sq rfl rfl hn rfl (q_assign rfl rfl) ?_
  refine run_nil (aend_then (awp_seq (awp_seq (awp_region ?_))))
  refine sq rfl rfl hn rfl (q_loadAd rfl rfl (id := 2) rfl Tryz.underlying24 rfl sz24 rfl rfl sees0) ?_
  refine sq rfl rfl hn rfl (q_move rfl rfl) ?_
  refine stepW (s_call [] (fun _ => (by have h := refRead_ok b (prS b ws (soldL b ws)) (by omega) hS5; rw [ref_read h0] at h; exact h)) rfl (guard_none rfl) rfl (nb hn rfl) (fun _ => trivial) rfl rfl (.refl _)) fun _ => ?_
  refine sq rfl rfl hn rfl (q_move rfl rfl) ?_
  refine sq rfl rfl hn rfl (q_extractd rfl rfl rfl) ?_
  refine sq rfl rfl hn rfl (q_extractd rfl rfl rfl) ?_
  refine sq rfl rfl hn rfl (q_assign rfl rfl) ?_
  refine sq rfl rfl hn rfl (q_assign rfl rfl) ?_
  refine run_nil (aend_then (awp_seq (awp_region ?_)))
  refine sq rfl rfl hn rfl (q_move rfl rfl) ?_
  refine sq rfl rfl hn rfl (q_neq rfl rfl rfl) ?_
  refine run_nil (aend_then ?_)
  refine awp_cond rfl (fun hb1 => ?_) (fun hb1 => ?_)
  ·
   refine awp_seq (awp_region ?_)
   refine stepW (s_call [] (fun _ => awake_ok) rfl (guard_none rfl) rfl (nb hn rfl) (fun _ => trivial) rfl rfl (.refl _)) fun _ => ?_
   refine sq rfl rfl hn rfl (q_assign rfl rfl) ?_
   refine run_nil (aend_then (awp_ret (aend_then_ret ?_)))
   exact ret_1 (.inl rfl) hl rfl (.tmp rfl)
  ·
   have hr0 : (readI b (prS b ws (soldL b ws))).2 = 0 := by simpa using hb1
   obtain ⟨R, ms, T⟩ := truth_law (ws := ws) h0 hso hr0
   have hme := minutes_err hr0
   have hR := T.rd
   have hP := T.pr
   have hX := T.mi
   have hRl := T.sy.len
   have hml : ms.length = R.length := levels_len T.lv
   rw [hR, hP, hX]
   refine awp_skip (aend_then (awp_seq (awp_seq (awp_region ?_))))
   refine sq rfl rfl hn rfl (q_move rfl rfl) ?_
   refine sq rfl rfl hn rfl (q_neq rfl rfl rfl) ?_
   refine sq rfl rfl hn rfl (q_move rfl rfl) ?_
   refine stepG [] (guard_some rfl rfl rfl) rfl (nb hn rfl) (fun hc => trivial) (fun hc => q_move rfl rfl) ?_
   refine stepG [(73, _)] (guard_some rfl rfl rfl) rfl (nb hn rfl) (fun hc => ⟨⟨_, rfl, hc⟩, trivial⟩) (fun hc => q_neq rfl rfl rfl) ?_
   refine sq rfl rfl hn rfl (q_or rfl rfl rfl (by intro hB; first | (rw [hB]; rfl) | (rw [hB, hc]; rfl) | simp_all)) ?_
   refine sq rfl rfl hn rfl (q_move rfl rfl) ?_
   refine stepG [] (guard_some rfl rfl rfl) rfl (nb hn rfl) (fun hc => trivial) (fun hc => q_move rfl rfl) ?_
   refine stepG [(77, _)] (guard_some rfl rfl rfl) rfl (nb hn rfl) (fun hc => ⟨⟨_, rfl, hc⟩, trivial⟩) (fun hc => q_neq rfl rfl rfl) ?_
   refine sq rfl rfl hn rfl (q_or rfl rfl rfl (by intro hB; first | (rw [hB]; rfl) | (rw [hB, hc]; rfl) | simp_all)) ?_
   refine sq rfl rfl hn rfl (q_move rfl rfl) ?_
   refine stepG [] (guard_some rfl rfl rfl) rfl (nb hn rfl) (fun hc => trivial) (fun hc => q_move rfl rfl) ?_
   refine stepG [(81, _)] (guard_some rfl rfl rfl) rfl (nb hn rfl) (fun hc => ⟨⟨_, rfl, hc⟩, trivial⟩) (fun hc => q_len rfl rfl Tryz.underlying27) ?_
   refine stepG [] (guard_some rfl rfl rfl) rfl (nb hn rfl) (fun hc => trivial) (fun hc => q_move rfl rfl) ?_
   refine stepG [(83, _)] (guard_some rfl rfl rfl) rfl (nb hn rfl) (fun hc => ⟨⟨_, rfl, hc⟩, trivial⟩) (fun hc => q_len rfl rfl Tryz.underlying70) ?_
   refine stepG [(82, _), (84, _)] (guard_some rfl rfl rfl) rfl (nb hn rfl) (fun hc => ⟨⟨_, rfl, hc⟩, ⟨_, rfl, hc⟩, trivial⟩) (fun hc => q_neq rfl rfl rfl) ?_
   refine sq rfl rfl hn rfl (q_or rfl rfl rfl (by intro hB; first | (rw [hB]; rfl) | (rw [hB, hc]; rfl) | simp_all)) ?_
   refine sq rfl rfl hn rfl (q_move rfl rfl) ?_
   refine stepG [] (guard_some rfl rfl rfl) rfl (nb hn rfl) (fun hc => trivial) (fun hc => q_move rfl rfl) ?_
   refine stepG [(88, _)] (guard_some rfl rfl rfl) rfl (nb hn rfl) (fun hc => ⟨⟨_, rfl, hc⟩, trivial⟩) (fun hc => q_len rfl rfl Tryz.underlying48) ?_
   refine stepG [] (guard_some rfl rfl rfl) rfl (nb hn rfl) (fun hc => trivial) (fun hc => q_move rfl rfl) ?_
   refine stepG [(90, _)] (guard_some rfl rfl rfl) rfl (nb hn rfl) (fun hc => ⟨⟨_, rfl, hc⟩, trivial⟩) (fun hc => q_len rfl rfl Tryz.underlying70) ?_
   refine stepG [(89, _), (91, _)] (guard_some rfl rfl rfl) rfl (nb hn rfl) (fun hc => ⟨⟨_, rfl, hc⟩, ⟨_, rfl, hc⟩, trivial⟩) (fun hc => q_neq rfl rfl rfl) ?_
   refine sq rfl rfl hn rfl (q_or rfl rfl rfl (by intro hB; first | (rw [hB]; rfl) | (rw [hB, hc]; rfl) | simp_all)) ?_
   refine sq rfl rfl hn rfl (q_move rfl rfl) ?_
   refine stepG [] (guard_some rfl rfl rfl) rfl (nb hn rfl) (fun hc => trivial) (fun hc => q_move rfl rfl) ?_
   refine stepG [(95, _)] (guard_some rfl rfl rfl) rfl (nb hn rfl) (fun hc => ⟨⟨_, rfl, hc⟩, trivial⟩) (fun hc => q_len rfl rfl Tryz.underlying57) ?_
   refine stepG [(96, _)] (guard_some rfl rfl rfl) rfl (nb hn rfl) (fun hc => ⟨⟨_, rfl, hc⟩, trivial⟩) (fun hc => q_neq rfl rfl rfl) ?_
   refine sq rfl rfl hn rfl (q_or rfl rfl rfl (by intro hB; first | (rw [hB]; rfl) | (rw [hB, hc]; rfl) | simp_all)) ?_
   refine sq rfl rfl hn rfl (q_move rfl rfl) ?_
   refine stepG [] (guard_some rfl rfl rfl) rfl (nb hn rfl) (fun hc => trivial) (fun hc => q_loadAd rfl rfl (id := 2) rfl Tryz.underlying24 rfl sz24 rfl rfl sees0) ?_
   refine stepW (s_call [(100, _)] (fun hc => Board_ok b (by omega)) rfl (guard_some rfl rfl rfl) rfl (nb hn rfl) (fun hc => ⟨⟨_, rfl, hc⟩, trivial⟩) rfl rfl (.refl _)) fun _ => ?_
   refine stepG [] (guard_some rfl rfl rfl) rfl (nb hn rfl) (fun hc => trivial) (fun hc => q_move rfl rfl) ?_
   refine stepG [] (guard_some rfl rfl rfl) rfl (nb hn rfl) (fun hc => trivial) (fun hc => q_move rfl rfl) ?_
   refine stepW (s_call [(103, _)] (fun hc => lprices_ok (soldL b ws) (by omega)) rfl (guard_some rfl rfl rfl) rfl (nb hn rfl) (fun hc => ⟨⟨_, rfl, hc⟩, trivial⟩) rfl rfl (.refl _)) fun _ => ?_
   refine stepW (s_call [(101, _), (102, _), (104, _)] (fun hc => ProveTruth_ok b (prS b ws (soldL b ws)) ((soldL b ws).map (·.price)) hN hS5) rfl (guard_some rfl rfl rfl) rfl (nb hn rfl) (fun hc => ⟨⟨_, rfl, hc⟩, ⟨_, rfl, hc⟩, ⟨_, rfl, hc⟩, trivial⟩) rfl rfl (.refl _)) fun _ => ?_
   refine stepG [(105, _)] (guard_some rfl rfl rfl) rfl (nb hn rfl) (fun hc => ⟨⟨_, rfl, hc⟩, trivial⟩) (fun hc => q_not rfl rfl) ?_
   refine sq rfl rfl hn rfl (q_or rfl rfl rfl (by intro hB; first | (rw [hB]; rfl) | (rw [hB, hc]; rfl) | simp_all)) ?_
   refine sq rfl rfl hn rfl (q_move rfl rfl) ?_
   refine stepG [] (guard_some rfl rfl rfl) rfl (nb hn rfl) (fun hc => trivial) (fun hc => q_move rfl rfl) ?_
   refine stepG [(109, _)] (guard_some rfl rfl rfl) rfl (nb hn rfl) (fun hc => ⟨⟨_, rfl, hc⟩, trivial⟩) (fun hc => q_neq rfl rfl rfl) ?_
   refine stepG [(110, _)] (guard_some rfl rfl rfl) rfl (nb hn rfl) (fun hc => ⟨⟨_, rfl, hc⟩, trivial⟩) (fun hc => q_move rfl rfl) ?_
   refine stepG [] (guard_some rfl rfl rfl) rfl (nb hn rfl) (fun hc => trivial) (fun hc => q_move rfl rfl) ?_
   refine stepG [(112, _)] (guard_some rfl rfl rfl) rfl (nb hn rfl) (fun hc => ⟨⟨_, rfl, hc⟩, trivial⟩) (fun hc => q_neq rfl rfl rfl) ?_
   refine stepG [(111, _)] (guard_some rfl rfl rfl) rfl (nb hn rfl) (fun hc => ⟨⟨_, rfl, hc⟩, trivial⟩) (fun hc => q_and rfl rfl rfl (by intro hB; first | (rw [hB]; rfl) | (rw [hB, hc]; rfl) | simp_all)) ?_
   refine sq rfl rfl hn rfl (q_or rfl rfl rfl (by intro hB; first | (rw [hB]; rfl) | (rw [hB, hc]; rfl) | simp_all)) ?_
   refine run_nil (aend_then ?_)
   refine awp_cond rfl (fun hb2 => ?_) (fun hb2 => ?_)
   ·
    exact absurd hb2 (by rw [T.pv]; simp only [List.length_map, hRl, hml]; rcases hme with h | h <;> simp [h])
   ·
    refine awp_skip (aend_then (awp_seq (awp_seq (awp_region ?_))))
    refine sq rfl rfl hn rfl (q_assign rfl rfl) ?_
    refine run_nil (aend_then (awp_block ?_))
    refine awp_loop_on (ι := {i : Nat // i ≤ (soldL b ws).length}) (fun x => (17, true, .d (.int .i64 (x.1 : Nat))) :: anys [116, 117, 118, 119, 122, 123, 124, 125, 126, 127, 128, 129, 130, 131, 132, 133, 134, 135, 136, 137, 138, 139, 140, 141, 142, 143, 144, 145, 146, 147, 148, 149, 150, 151, 152, 153, 154, 155, 156, 157, 158, 159, 160, 161, 162, 163, 164, 165, 166, 167, 168, 169, 170, 171, 172, 173, 174, 175, 176, 177, 178, 179, 180, 181, 182, 183, 184, 185, 186, 187, 188, 189, 190, 191, 192, 193, 194, 195, 196, 197, 198, 199, 200, 201, 202, 203, 204, 205, 206, 207, 208, 209, 210, 211, 212, 213, 214, 215, 216, 217, 218, 219, 220, 221, 223, 224, 225, 226, 227, 228, 229, 230, 231, 232, 233, 234, 235, 236, 237, 238, 239, 240, 241, 242, 243, 244, 245, 246, 247, 248, 249, 250, 251, 252, 253, 222, 254, 255, 18, 19, 20, 21, 256, 257, 258, 259, 262, 263, 264, 265, 266, 267, 268, 269, 270, 260, 261, 271, 272, 273, 274, 275, 276, 120, 121]) (fun x => []) (fun x => (soldL b ws).length - x.1) ⟨0, Nat.zero_le _⟩ ⟨.inl rfl, holdT_anys _⟩ trivial ?_
    rintro ⟨i, hi⟩
    dsimp only
    refine awp_seq (awp_seq (awp_region ?_))
    refine sq rfl rfl hn rfl (q_move rfl rfl) ?_
    refine sq rfl rfl hn rfl (q_move rfl rfl) ?_
    refine sq rfl rfl hn rfl (q_len rfl rfl Tryz.underlying70) ?_
    refine sq rfl rfl hn rfl (q_lss rfl rfl rfl) ?_
    refine run_nil (aend_then ?_)
    refine awp_cond rfl (fun hb3 => ?_) (fun hb3 => ?_)
    ·
     have hil : i < (soldL b ws).length := by simp at hb3; omega
     obtain ⟨sl, hsl⟩ := ex_get hil
     obtain ⟨p, hp⟩ := ex_get (show i < R.length by omega)
     obtain ⟨m, hm⟩ := ex_get (show i < ms.length by omega)
     have hbm : (ms.map bndN)[i]? = some (bndN m) := by rw [List.getElem?_map, hm]; rfl
     have q1 := T.sy.st i hil
     have q2 := T.sy.num i hil
     have q3 := T.bd i hil
     rw [getD_of hsl, getD_of hp] at q1 q2
     rw [getD_of hsl, getD_of hm] at q3
     refine awp_skip (aend_then (awp_seq (awp_block (awp_seq (awp_seq ?_)))))
     refine d_start (W := fun b => True) fmo ?_
     refine d1q (i := 0) rfl (by kernel_rfl) (fun _ _ _ _ h => h) rfl rfl hn rfl (q_move rfl rfl) ?_
     refine d1q (i := 1) rfl (by kernel_rfl) (fun _ _ _ _ h => h) rfl rfl hn rfl (q_move rfl rfl) ?_
     refine d1q (i := 2) rfl (by kernel_rfl) (fun _ _ _ _ h => h) rfl rfl hn rfl (q_index (i := i) rfl rfl rfl Tryz.underlying27 sz47 rfl (mget hp)) ?_
     refine d1q (i := 3) rfl (by kernel_rfl) (fun _ _ _ _ h => h) rfl rfl hn rfl (q_fieldAddrp rfl rfl Tryz.underlying47 rfl sz3 rfl) ?_
     refine d1q (i := 4) rfl (by kernel_rfl) (fun _ _ _ _ h => h) rfl rfl hn rfl (q_loadp rfl rfl Tryz.underlying3 rfl seesFA) ?_
     refine d1q (i := 5) rfl (by kernel_rfl) (fun _ _ _ _ h => h) rfl rfl hn rfl (q_move rfl rfl) ?_
     refine d1q (i := 6) rfl (by kernel_rfl) (fun _ _ _ _ h => h) rfl rfl hn rfl (q_move rfl rfl) ?_
     refine d1q (i := 7) rfl (by kernel_rfl) (fun _ _ _ _ h => h) rfl rfl hn rfl (q_index (i := i) rfl rfl rfl Tryz.underlying70 sz91 rfl (mget hsl)) ?_
     refine d1q (i := 8) rfl (by kernel_rfl) (fun _ _ _ _ h => h) rfl rfl hn rfl (q_fieldAddrp rfl rfl Tryz.underlying91 rfl sz3 rfl) ?_
     refine d1q (i := 9) rfl (by kernel_rfl) (fun _ _ _ _ h => h) rfl rfl hn rfl (q_loadp rfl rfl Tryz.underlying3 rfl seesFA) ?_
     refine d1q (i := 10) rfl (by kernel_rfl) (fun _ _ _ _ h => h) rfl rfl hn rfl (q_neq rfl rfl rfl) ?_
     refine d1q (i := 11) rfl (by kernel_rfl) (fun _ _ _ _ h => h) rfl rfl hn rfl (q_move rfl rfl) ?_
     refine d1g (i := 12) [] rfl (by kernel_rfl) (fun _ _ _ _ h => h) (guard_some rfl rfl rfl) rfl hn rfl (fun hc => trivial) (fun hc => q_move rfl rfl) ?_
     refine d1g (i := 13) [] rfl (by kernel_rfl) (fun _ _ _ _ h => h) (guard_some rfl rfl rfl) rfl hn rfl (fun hc => trivial) (fun hc => q_move rfl rfl) ?_
     refine d1g (i := 14) [(134, _), (135, _)] rfl (by kernel_rfl) (fun _ _ _ _ h => h) (guard_some rfl rfl rfl) rfl hn rfl (fun hc => ⟨⟨_, rfl, hc⟩, ⟨_, rfl, hc⟩, trivial⟩) (fun hc => q_index (i := i) rfl rfl rfl Tryz.underlying70 sz91 rfl (mget hsl)) ?_
     refine d1g (i := 15) [(136, _)] rfl (by kernel_rfl) (fun _ _ _ _ h => h) (guard_some rfl rfl rfl) rfl hn rfl (fun hc => ⟨⟨_, rfl, hc⟩, trivial⟩) (fun hc => q_fieldAddrp rfl rfl Tryz.underlying91 rfl sz3 rfl) ?_
     refine d1g (i := 16) [(137, _)] rfl (by kernel_rfl) (fun _ _ _ _ h => h) (guard_some rfl rfl rfl) rfl hn rfl (fun hc => ⟨⟨_, rfl, hc⟩, trivial⟩) (fun hc => q_loadp rfl rfl Tryz.underlying3 rfl seesFA) ?_
     refine d1g (i := 17) [] rfl (by kernel_rfl) (fun _ _ _ _ h => h) (guard_some rfl rfl rfl) rfl hn rfl (fun hc => trivial) (fun hc => q_move rfl rfl) ?_
     refine d1g (i := 18) [] rfl (by kernel_rfl) (fun _ _ _ _ h => h) (guard_some rfl rfl rfl) rfl hn rfl (fun hc => trivial) (fun hc => q_move rfl rfl) ?_
     refine d1g (i := 19) [(139, _), (140, _)] rfl (by kernel_rfl) (fun _ _ _ _ h => h) (guard_some rfl rfl rfl) rfl hn rfl (fun hc => ⟨⟨_, rfl, hc⟩, ⟨_, rfl, hc⟩, trivial⟩) (fun hc => q_index (i := i) rfl rfl rfl Tryz.underlying48 sz45 rfl (mget hbm)) ?_
     refine d1g (i := 20) [(141, _)] rfl (by kernel_rfl) (fun _ _ _ _ h => h) (guard_some rfl rfl rfl) rfl hn rfl (fun hc => ⟨⟨_, rfl, hc⟩, trivial⟩) (fun hc => q_fieldAddrp rfl rfl Tryz.underlying45 rfl sz3 rfl) ?_
     refine d1g (i := 21) [(142, _)] rfl (by kernel_rfl) (fun _ _ _ _ h => h) (guard_some rfl rfl rfl) rfl hn rfl (fun hc => ⟨⟨_, rfl, hc⟩, trivial⟩) (fun hc => q_loadp rfl rfl Tryz.underlying3 rfl seesFA) ?_
     refine d1g (i := 22) [(138, _), (143, _)] rfl (by kernel_rfl) (fun _ _ _ _ h => h) (guard_some rfl rfl rfl) rfl hn rfl (fun hc => ⟨⟨_, rfl, hc⟩, ⟨_, rfl, hc⟩, trivial⟩) (fun hc => q_lss rfl rfl rfl) ?_
     refine d1q (i := 23) rfl (by kernel_rfl) (fun _ _ _ _ h => h) rfl rfl hn rfl (q_or rfl rfl rfl (by intro hB; first | (rw [hB]; rfl) | (rw [hB, hc]; rfl) | simp_all)) ?_
     refine d1q (i := 24) rfl (by kernel_rfl) (fun _ _ _ _ h => h) rfl rfl hn rfl (q_move rfl rfl) ?_
     refine d1g (i := 25) [] rfl (by kernel_rfl) (fun _ _ _ _ h => h) (guard_some rfl rfl rfl) rfl hn rfl (fun hc => trivial) (fun hc => q_move rfl rfl) ?_
     refine d1g (i := 26) [] rfl (by kernel_rfl) (fun _ _ _ _ h => h) (guard_some rfl rfl rfl) rfl hn rfl (fun hc => trivial) (fun hc => q_move rfl rfl) ?_
     refine d1g (i := 27) [(147, _), (148, _)] rfl (by kernel_rfl) (fun _ _ _ _ h => h) (guard_some rfl rfl rfl) rfl hn rfl (fun hc => ⟨⟨_, rfl, hc⟩, ⟨_, rfl, hc⟩, trivial⟩) (fun hc => q_index (i := i) rfl rfl rfl Tryz.underlying70 sz91 rfl (mget hsl)) ?_
     refine d1g (i := 28) [(149, _)] rfl (by kernel_rfl) (fun _ _ _ _ h => h) (guard_some rfl rfl rfl) rfl hn rfl (fun hc => ⟨⟨_, rfl, hc⟩, trivial⟩) (fun hc => q_fieldAddrp rfl rfl Tryz.underlying91 rfl sz3 rfl) ?_
     refine d1g (i := 29) [(150, _)] rfl (by kernel_rfl) (fun _ _ _ _ h => h) (guard_some rfl rfl rfl) rfl hn rfl (fun hc => ⟨⟨_, rfl, hc⟩, trivial⟩) (fun hc => q_loadp rfl rfl Tryz.underlying3 rfl seesFA) ?_
     refine d1g (i := 30) [] rfl (by kernel_rfl) (fun _ _ _ _ h => h) (guard_some rfl rfl rfl) rfl hn rfl (fun hc => trivial) (fun hc => q_move rfl rfl) ?_
     refine d1g (i := 31) [] rfl (by kernel_rfl) (fun _ _ _ _ h => h) (guard_some rfl rfl rfl) rfl hn rfl (fun hc => trivial) (fun hc => q_move rfl rfl) ?_
     refine d1g (i := 32) [(152, _), (153, _)] rfl (by kernel_rfl) (fun _ _ _ _ h => h) (guard_some rfl rfl rfl) rfl hn rfl (fun hc => ⟨⟨_, rfl, hc⟩, ⟨_, rfl, hc⟩, trivial⟩) (fun hc => q_index (i := i) rfl rfl rfl Tryz.underlying48 sz45 rfl (mget hbm)) ?_
     refine d1g (i := 33) [(154, _)] rfl (by kernel_rfl) (fun _ _ _ _ h => h) (guard_some rfl rfl rfl) rfl hn rfl (fun hc => ⟨⟨_, rfl, hc⟩, trivial⟩) (fun hc => q_fieldAddrp rfl rfl Tryz.underlying45 rfl sz3 rfl) ?_
     refine d1g (i := 34) [(155, _)] rfl (by kernel_rfl) (fun _ _ _ _ h => h) (guard_some rfl rfl rfl) rfl hn rfl (fun hc => ⟨⟨_, rfl, hc⟩, trivial⟩) (fun hc => q_loadp rfl rfl Tryz.underlying3 rfl seesFA) ?_
     refine d1g (i := 35) [(151, _), (156, _)] rfl (by kernel_rfl) (fun _ _ _ _ h => h) (guard_some rfl rfl rfl) rfl hn rfl (fun hc => ⟨⟨_, rfl, hc⟩, ⟨_, rfl, hc⟩, trivial⟩) (fun hc => q_gtr rfl rfl rfl) ?_
     refine d1q (i := 36) rfl (by kernel_rfl) (fun _ _ _ _ h => h) rfl rfl hn rfl (q_or rfl rfl rfl (by intro hB; first | (rw [hB]; rfl) | (rw [hB, hc]; rfl) | simp_all)) ?_
     refine d1q (i := 37) rfl (by kernel_rfl) (fun _ _ _ _ h => h) rfl rfl hn rfl (q_move rfl rfl) ?_
     refine d1g (i := 38) [] rfl (by kernel_rfl) (fun _ _ _ _ h => h) (guard_some rfl rfl rfl) rfl hn rfl (fun hc => trivial) (fun hc => q_move rfl rfl) ?_
     refine d1g (i := 39) [] rfl (by kernel_rfl) (fun _ _ _ _ h => h) (guard_some rfl rfl rfl) rfl hn rfl (fun hc => trivial) (fun hc => q_move rfl rfl) ?_
     refine d1g (i := 40) [(160, _), (161, _)] rfl (by kernel_rfl) (fun _ _ _ _ h => h) (guard_some rfl rfl rfl) rfl hn rfl (fun hc => ⟨⟨_, rfl, hc⟩, ⟨_, rfl, hc⟩, trivial⟩) (fun hc => q_index (i := i) rfl rfl rfl Tryz.underlying70 sz91 rfl (mget hsl)) ?_
     refine d1g (i := 41) [(162, _)] rfl (by kernel_rfl) (fun _ _ _ _ h => h) (guard_some rfl rfl rfl) rfl hn rfl (fun hc => ⟨⟨_, rfl, hc⟩, trivial⟩) (fun hc => q_fieldAddrp rfl rfl Tryz.underlying91 rfl sz3 rfl) ?_
     refine d1g (i := 42) [(163, _)] rfl (by kernel_rfl) (fun _ _ _ _ h => h) (guard_some rfl rfl rfl) rfl hn rfl (fun hc => ⟨⟨_, rfl, hc⟩, trivial⟩) (fun hc => q_loadp rfl rfl Tryz.underlying3 rfl seesFA) ?_
     refine d1g (i := 43) [] rfl (by kernel_rfl) (fun _ _ _ _ h => h) (guard_some rfl rfl rfl) rfl hn rfl (fun hc => trivial) (fun hc => q_move rfl rfl) ?_
     refine d1g (i := 44) [] rfl (by kernel_rfl) (fun _ _ _ _ h => h) (guard_some rfl rfl rfl) rfl hn rfl (fun hc => trivial) (fun hc => q_move rfl rfl) ?_
     refine d1g (i := 45) [(165, _), (166, _)] rfl (by kernel_rfl) (fun _ _ _ _ h => h) (guard_some rfl rfl rfl) rfl hn rfl (fun hc => ⟨⟨_, rfl, hc⟩, ⟨_, rfl, hc⟩, trivial⟩) (fun hc => q_index (i := i) rfl rfl rfl Tryz.underlying27 sz47 rfl (mget hp)) ?_
     refine d1g (i := 46) [(167, _)] rfl (by kernel_rfl) (fun _ _ _ _ h => h) (guard_some rfl rfl rfl) rfl hn rfl (fun hc => ⟨⟨_, rfl, hc⟩, trivial⟩) (fun hc => q_fieldAddrp rfl rfl Tryz.underlying47 rfl sz45 rfl) ?_
     refine d1g (i := 47) [(168, _)] rfl (by kernel_rfl) (fun _ _ _ _ h => h) (guard_some rfl rfl rfl) rfl hn rfl (fun hc => ⟨⟨_, rfl, hc⟩, trivial⟩) (fun hc => q_fieldAddrp rfl rfl Tryz.underlying45 rfl sz3 rfl) ?_
     refine d1g (i := 48) [(169, _)] rfl (by kernel_rfl) (fun _ _ _ _ h => h) (guard_some rfl rfl rfl) rfl hn rfl (fun hc => ⟨⟨_, rfl, hc⟩, trivial⟩) (fun hc => q_loadp rfl rfl Tryz.underlying3 rfl seesFA) ?_
     refine d1g (i := 49) [(164, _), (170, _)] rfl (by kernel_rfl) (fun _ _ _ _ h => h) (guard_some rfl rfl rfl) rfl hn rfl (fun hc => ⟨⟨_, rfl, hc⟩, ⟨_, rfl, hc⟩, trivial⟩) (fun hc => q_lss rfl rfl rfl) ?_
     refine d1q (i := 50) rfl (by kernel_rfl) (fun _ _ _ _ h => h) rfl rfl hn rfl (q_or rfl rfl rfl (by intro hB; first | (rw [hB]; rfl) | (rw [hB, hc]; rfl) | simp_all)) ?_
     refine d1q (i := 51) rfl (by kernel_rfl) (fun _ _ _ _ h => h) rfl rfl hn rfl (q_move rfl rfl) ?_
     refine d1g (i := 52) [] rfl (by kernel_rfl) (fun _ _ _ _ h => h) (guard_some rfl rfl rfl) rfl hn rfl (fun hc => trivial) (fun hc => q_move rfl rfl) ?_
     refine d1g (i := 53) [] rfl (by kernel_rfl) (fun _ _ _ _ h => h) (guard_some rfl rfl rfl) rfl hn rfl (fun hc => trivial) (fun hc => q_move rfl rfl) ?_
     refine d1g (i := 54) [(174, _), (175, _)] rfl (by kernel_rfl) (fun _ _ _ _ h => h) (guard_some rfl rfl rfl) rfl hn rfl (fun hc => ⟨⟨_, rfl, hc⟩, ⟨_, rfl, hc⟩, trivial⟩) (fun hc => q_index (i := i) rfl rfl rfl Tryz.underlying70 sz91 rfl (mget hsl)) ?_
     refine d1g (i := 55) [(176, _)] rfl (by kernel_rfl) (fun _ _ _ _ h => h) (guard_some rfl rfl rfl) rfl hn rfl (fun hc => ⟨⟨_, rfl, hc⟩, trivial⟩) (fun hc => q_fieldAddrp rfl rfl Tryz.underlying91 rfl sz3 rfl) ?_
     refine d1g (i := 56) [(177, _)] rfl (by kernel_rfl) (fun _ _ _ _ h => h) (guard_some rfl rfl rfl) rfl hn rfl (fun hc => ⟨⟨_, rfl, hc⟩, trivial⟩) (fun hc => q_loadp rfl rfl Tryz.underlying3 rfl seesFA) ?_
     refine d1g (i := 57) [] rfl (by kernel_rfl) (fun _ _ _ _ h => h) (guard_some rfl rfl rfl) rfl hn rfl (fun hc => trivial) (fun hc => q_move rfl rfl) ?_
     refine d1g (i := 58) [] rfl (by kernel_rfl) (fun _ _ _ _ h => h) (guard_some rfl rfl rfl) rfl hn rfl (fun hc => trivial) (fun hc => q_move rfl rfl) ?_
     refine d1g (i := 59) [(179, _), (180, _)] rfl (by kernel_rfl) (fun _ _ _ _ h => h) (guard_some rfl rfl rfl) rfl hn rfl (fun hc => ⟨⟨_, rfl, hc⟩, ⟨_, rfl, hc⟩, trivial⟩) (fun hc => q_index (i := i) rfl rfl rfl Tryz.underlying27 sz47 rfl (mget hp)) ?_
     refine d1g (i := 60) [(181, _)] rfl (by kernel_rfl) (fun _ _ _ _ h => h) (guard_some rfl rfl rfl) rfl hn rfl (fun hc => ⟨⟨_, rfl, hc⟩, trivial⟩) (fun hc => q_fieldAddrp rfl rfl Tryz.underlying47 rfl sz45 rfl) ?_
     refine d1g (i := 61) [(182, _)] rfl (by kernel_rfl) (fun _ _ _ _ h => h) (guard_some rfl rfl rfl) rfl hn rfl (fun hc => ⟨⟨_, rfl, hc⟩, trivial⟩) (fun hc => q_fieldAddrp rfl rfl Tryz.underlying45 rfl sz3 rfl) ?_
     refine d1g (i := 62) [(183, _)] rfl (by kernel_rfl) (fun _ _ _ _ h => h) (guard_some rfl rfl rfl) rfl hn rfl (fun hc => ⟨⟨_, rfl, hc⟩, trivial⟩) (fun hc => q_loadp rfl rfl Tryz.underlying3 rfl seesFA) ?_
     refine d1g (i := 63) [(178, _), (184, _)] rfl (by kernel_rfl) (fun _ _ _ _ h => h) (guard_some rfl rfl rfl) rfl hn rfl (fun hc => ⟨⟨_, rfl, hc⟩, ⟨_, rfl, hc⟩, trivial⟩) (fun hc => q_gtr rfl rfl rfl) ?_
     refine d1q (i := 64) rfl (by kernel_rfl) (fun _ _ _ _ h => h) rfl rfl hn rfl (q_or rfl rfl rfl (by intro hB; first | (rw [hB]; rfl) | (rw [hB, hc]; rfl) | simp_all)) ?_
     refine d1_of_d2 ?_
     refine d2_done (by kernel_rfl) ?_
     refine aend_then ?_
     refine awp_cond rfl (fun hb4 => ?_) (fun hb4 => ?_)
     ·
      exfalso; have h := hb4; simp only [Bool.or_eq_true, bne_iff_ne, ne_eq, decide_eq_true_eq] at h; rcases h with (((h | h) | h) | h) | h <;> omega
     ·
      refine awp_skip (aend_then (awp_seq (awp_seq ?_)))
      refine d_start (W := fun b => True) fmo ?_
      refine d1q (i := 0) rfl (by kernel_rfl) (fun _ _ _ _ h => h) rfl rfl hn rfl (q_move rfl rfl) ?_
      refine d1q (i := 1) rfl (by kernel_rfl) (fun _ _ _ _ h => h) rfl rfl hn rfl (q_neq rfl rfl rfl) ?_
      refine d1q (i := 2) rfl (by kernel_rfl) (fun _ _ _ _ h => h) rfl rfl hn rfl (q_move rfl rfl) ?_
      refine d1g (i := 3) [] rfl (by kernel_rfl) (fun _ _ _ _ h => h) (guard_some rfl rfl rfl) rfl hn rfl (fun hc => trivial) (fun hc => q_move rfl rfl) ?_
      refine d1g (i := 4) [(190, _)] rfl (by kernel_rfl) (fun _ _ _ _ h => h) (guard_some rfl rfl rfl) rfl hn rfl (fun hc => ⟨⟨_, rfl, hc⟩, trivial⟩) (fun hc => q_len rfl rfl Tryz.underlying48) ?_
      refine d1g (i := 5) [] rfl (by kernel_rfl) (fun _ _ _ _ h => h) (guard_some rfl rfl rfl) rfl hn rfl (fun hc => trivial) (fun hc => q_move rfl rfl) ?_
      refine d1g (i := 6) [(192, _)] rfl (by kernel_rfl) (fun _ _ _ _ h => h) (guard_some rfl rfl rfl) rfl hn rfl (fun hc => ⟨⟨_, rfl, hc⟩, trivial⟩) (fun hc => q_len rfl rfl Tryz.underlying70) ?_
      refine d1g (i := 7) [(191, _), (193, _)] rfl (by kernel_rfl) (fun _ _ _ _ h => h) (guard_some rfl rfl rfl) rfl hn rfl (fun hc => ⟨⟨_, rfl, hc⟩, ⟨_, rfl, hc⟩, trivial⟩) (fun hc => q_neq rfl rfl rfl) ?_
      refine d1q (i := 8) rfl (by kernel_rfl) (fun _ _ _ _ h => h) rfl rfl hn rfl (q_or rfl rfl rfl (by intro hB; first | (rw [hB]; rfl) | (rw [hB, hc]; rfl) | simp_all)) ?_
      refine d1q (i := 9) rfl (by kernel_rfl) (fun _ _ _ _ h => h) rfl rfl hn rfl (q_move rfl rfl) ?_
      refine d1g (i := 10) [] rfl (by kernel_rfl) (fun _ _ _ _ h => h) (guard_some rfl rfl rfl) rfl hn rfl (fun hc => trivial) (fun hc => q_move rfl rfl) ?_
      refine d1g (i := 11) [] rfl (by kernel_rfl) (fun _ _ _ _ h => h) (guard_some rfl rfl rfl) rfl hn rfl (fun hc => trivial) (fun hc => q_move rfl rfl) ?_
      refine d1g (i := 12) [(197, _), (198, _)] rfl (by kernel_rfl) (fun _ _ _ _ h => h) (guard_some rfl rfl rfl) rfl hn rfl (fun hc => ⟨⟨_, rfl, hc⟩, ⟨_, rfl, hc⟩, trivial⟩) (fun hc => q_index (i := i) rfl rfl rfl Tryz.underlying70 sz91 rfl (mget hsl)) ?_
      refine d1g (i := 13) [(199, _)] rfl (by kernel_rfl) (fun _ _ _ _ h => h) (guard_some rfl rfl rfl) rfl hn rfl (fun hc => ⟨⟨_, rfl, hc⟩, trivial⟩) (fun hc => q_fieldAddrp rfl rfl Tryz.underlying91 rfl sz3 rfl) ?_
      refine d1g (i := 14) [(200, _)] rfl (by kernel_rfl) (fun _ _ _ _ h => h) (guard_some rfl rfl rfl) rfl hn rfl (fun hc => ⟨⟨_, rfl, hc⟩, trivial⟩) (fun hc => q_loadp rfl rfl Tryz.underlying3 rfl seesFA) ?_
      refine d1g (i := 15) [] rfl (by kernel_rfl) (fun _ _ _ _ h => h) (guard_some rfl rfl rfl) rfl hn rfl (fun hc => trivial) (fun hc => q_move rfl rfl) ?_
      refine d1g (i := 16) [] rfl (by kernel_rfl) (fun _ _ _ _ h => h) (guard_some rfl rfl rfl) rfl hn rfl (fun hc => trivial) (fun hc => q_move rfl rfl) ?_
      refine d1g (i := 17) [(202, _), (203, _)] rfl (by kernel_rfl) (fun _ _ _ _ h => h) (guard_some rfl rfl rfl) rfl hn rfl (fun hc => ⟨⟨_, rfl, hc⟩, ⟨_, rfl, hc⟩, trivial⟩) (fun hc => q_index (i := i) rfl rfl rfl Tryz.underlying48 sz45 rfl (mget (m_get (hc_f hc) hil))) ?_
      refine d1g (i := 18) [(204, _)] rfl (by kernel_rfl) (fun _ _ _ _ h => h) (guard_some rfl rfl rfl) rfl hn rfl (fun hc => ⟨⟨_, rfl, hc⟩, trivial⟩) (fun hc => q_fieldAddrp rfl rfl Tryz.underlying45 rfl sz3 rfl) ?_
      refine d1g (i := 19) [(205, _)] rfl (by kernel_rfl) (fun _ _ _ _ h => h) (guard_some rfl rfl rfl) rfl hn rfl (fun hc => ⟨⟨_, rfl, hc⟩, trivial⟩) (fun hc => q_loadp rfl rfl Tryz.underlying3 rfl seesFA) ?_
      refine d1g (i := 20) [(201, _), (206, _)] rfl (by kernel_rfl) (fun _ _ _ _ h => h) (guard_some rfl rfl rfl) rfl hn rfl (fun hc => ⟨⟨_, rfl, hc⟩, ⟨_, rfl, hc⟩, trivial⟩) (fun hc => q_lss rfl rfl rfl) ?_
      refine d1q (i := 21) rfl (by kernel_rfl) (fun _ _ _ _ h => h) rfl rfl hn rfl (q_or rfl rfl rfl (by intro hB; first | (rw [hB]; rfl) | (rw [hB, hc]; rfl) | simp_all)) ?_
      refine d1q (i := 22) rfl (by kernel_rfl) (fun _ _ _ _ h => h) rfl rfl hn rfl (q_move rfl rfl) ?_
      refine d1g (i := 23) [] rfl (by kernel_rfl) (fun _ _ _ _ h => h) (guard_some rfl rfl rfl) rfl hn rfl (fun hc => trivial) (fun hc => q_move rfl rfl) ?_
      refine d1g (i := 24) [] rfl (by kernel_rfl) (fun _ _ _ _ h => h) (guard_some rfl rfl rfl) rfl hn rfl (fun hc => trivial) (fun hc => q_move rfl rfl) ?_
      refine d1g (i := 25) [(210, _), (211, _)] rfl (by kernel_rfl) (fun _ _ _ _ h => h) (guard_some rfl rfl rfl) rfl hn rfl (fun hc => ⟨⟨_, rfl, hc⟩, ⟨_, rfl, hc⟩, trivial⟩) (fun hc => q_index (i := i) rfl rfl rfl Tryz.underlying70 sz91 rfl (mget hsl)) ?_
      refine d1g (i := 26) [(212, _)] rfl (by kernel_rfl) (fun _ _ _ _ h => h) (guard_some rfl rfl rfl) rfl hn rfl (fun hc => ⟨⟨_, rfl, hc⟩, trivial⟩) (fun hc => q_fieldAddrp rfl rfl Tryz.underlying91 rfl sz3 rfl) ?_
      refine d1g (i := 27) [(213, _)] rfl (by kernel_rfl) (fun _ _ _ _ h => h) (guard_some rfl rfl rfl) rfl hn rfl (fun hc => ⟨⟨_, rfl, hc⟩, trivial⟩) (fun hc => q_loadp rfl rfl Tryz.underlying3 rfl seesFA) ?_
      refine d1g (i := 28) [] rfl (by kernel_rfl) (fun _ _ _ _ h => h) (guard_some rfl rfl rfl) rfl hn rfl (fun hc => trivial) (fun hc => q_move rfl rfl) ?_
      refine d1g (i := 29) [] rfl (by kernel_rfl) (fun _ _ _ _ h => h) (guard_some rfl rfl rfl) rfl hn rfl (fun hc => trivial) (fun hc => q_move rfl rfl) ?_
      refine d1g (i := 30) [(215, _), (216, _)] rfl (by kernel_rfl) (fun _ _ _ _ h => h) (guard_some rfl rfl rfl) rfl hn rfl (fun hc => ⟨⟨_, rfl, hc⟩, ⟨_, rfl, hc⟩, trivial⟩) (fun hc => q_index (i := i) rfl rfl rfl Tryz.underlying48 sz45 rfl (mget (m_get (Bool.or_eq_false_iff.1 (hc_f hc)).1 hil))) ?_
      refine d1g (i := 31) [(217, _)] rfl (by kernel_rfl) (fun _ _ _ _ h => h) (guard_some rfl rfl rfl) rfl hn rfl (fun hc => ⟨⟨_, rfl, hc⟩, trivial⟩) (fun hc => q_fieldAddrp rfl rfl Tryz.underlying45 rfl sz3 rfl) ?_
      refine d1g (i := 32) [(218, _)] rfl (by kernel_rfl) (fun _ _ _ _ h => h) (guard_some rfl rfl rfl) rfl hn rfl (fun hc => ⟨⟨_, rfl, hc⟩, trivial⟩) (fun hc => q_loadp rfl rfl Tryz.underlying3 rfl seesFA) ?_
      refine d1g (i := 33) [(214, _), (219, _)] rfl (by kernel_rfl) (fun _ _ _ _ h => h) (guard_some rfl rfl rfl) rfl hn rfl (fun hc => ⟨⟨_, rfl, hc⟩, ⟨_, rfl, hc⟩, trivial⟩) (fun hc => q_gtr rfl rfl rfl) ?_
      refine d1q (i := 34) rfl (by kernel_rfl) (fun _ _ _ _ h => h) rfl rfl hn rfl (q_or rfl rfl rfl (by intro hB; first | (rw [hB]; rfl) | (rw [hB, hc]; rfl) | simp_all)) ?_
      refine d1_of_d2 ?_
      refine d2_done (by kernel_rfl) ?_
      refine aend_then ?_
      refine awp_cond rfl (fun hb5 => ?_) (fun hb5 => ?_)
      ·
       refine awp_exit (aend_then_exit (aend_block_exit (aend_then (awp_region ?_))))
       refine sq rfl rfl hn rfl (q_move rfl rfl) ?_
       refine sq rfl rfl hn rfl (q_add rfl rfl rfl (r := ((i + 1 : Nat) : Int)) (i64w (by omega) (by omega))) ?_
       refine sq rfl rfl hn rfl (q_assign rfl rfl) ?_
       refine run_nil ?_
       exact aend_round_on ⟨i + 1, by omega⟩ ⟨.inl rfl, holdT_anys _⟩ trivial (by simp only; omega) (by repeat (first | exact kr _ | refine kc rfl ?_)) (by repeat (first | exact kr _ | refine kc rfl ?_))
      ·
       obtain ⟨g1, g2, g3⟩ : (minutesI b (prS b ws (soldL b ws))).2 = 0 ∧ ((minutesI b (prS b ws (soldL b ws))).1.getD i (0, 0)).1 ≤ sl.minute ∧ sl.minute ≤ ((minutesI b (prS b ws (soldL b ws))).1.getD i (0, 0)).2 := by have h := hb5; simp only [Bool.or_eq_false_iff, bne_eq_false_iff_eq, decide_eq_false_iff_not] at h; exact ⟨h.1.1.1, by omega, by omega⟩
       obtain ⟨fl, hF, hmem, hfl⟩ := find_law2 v hso.ok T g1 hsl g2 g3
       refine awp_skip (aend_then (awp_seq ?_))
       refine d_start (W := fun b => b ≠ b2) fmo ?_
       refine d1q (i := 0) rfl (by kernel_rfl) (fun _ _ _ _ h => h) rfl rfl hn rfl (q_loadAd rfl rfl (id := 2) rfl Tryz.underlying24 rfl sz24 rfl rfl (seesA (by simp))) ?_
       refine d1q (i := 2) rfl (by kernel_rfl) (fun _ _ _ _ h => h) rfl rfl hn rfl (q_move rfl rfl) ?_
       refine d1q (i := 3) rfl (by kernel_rfl) (fun _ _ _ _ h => h) rfl rfl hn rfl (q_move rfl rfl) ?_
       refine d1q (i := 4) rfl (by kernel_rfl) (fun _ _ _ _ h => h) rfl rfl hn rfl (q_move rfl rfl) ?_
       refine d1q (i := 5) rfl (by kernel_rfl) (fun _ _ _ _ h => h) rfl rfl hn rfl (q_index (i := i) rfl rfl rfl Tryz.underlying70 sz91 rfl (mget hsl)) ?_
       refine d1q (i := 6) rfl (by kernel_rfl) (fun _ _ _ _ h => h) rfl rfl hn rfl (q_fieldAddrp rfl rfl Tryz.underlying91 rfl sz3 rfl) ?_
       refine d1q (i := 7) rfl (by kernel_rfl) (fun _ _ _ _ h => h) rfl rfl hn rfl (q_loadp rfl rfl Tryz.underlying3 rfl seesFA) ?_
       refine d1q (i := 8) rfl (by kernel_rfl) (fun _ _ _ _ h => h) rfl rfl hn rfl (q_move rfl rfl) ?_
       refine d1q (i := 9) rfl (by kernel_rfl) (fun _ _ _ _ h => h) rfl rfl hn rfl (q_move rfl rfl) ?_
       refine d1q (i := 10) rfl (by kernel_rfl) (fun _ _ _ _ h => h) rfl rfl hn rfl (q_index (i := i) rfl rfl rfl Tryz.underlying70 sz91 rfl (mget hsl)) ?_
       refine d1q (i := 11) rfl (by kernel_rfl) (fun _ _ _ _ h => h) rfl rfl hn rfl (q_fieldAddrp rfl rfl Tryz.underlying91 rfl sz3 rfl) ?_
       refine d1q (i := 12) rfl (by kernel_rfl) (fun _ _ _ _ h => h) rfl rfl hn rfl (q_loadp rfl rfl Tryz.underlying3 rfl seesFA) ?_
       refine d1q (i := 13) rfl (by kernel_rfl) (fun _ _ _ _ h => h) rfl rfl hn rfl (q_move rfl rfl) ?_
       refine d1q (i := 14) rfl (by kernel_rfl) (fun _ _ _ _ h => h) rfl rfl hn rfl (q_move rfl rfl) ?_
       refine d1q (i := 15) rfl (by kernel_rfl) (fun _ _ _ _ h => h) rfl rfl hn rfl (q_index (i := i) rfl rfl rfl Tryz.underlying70 sz91 rfl (mget hsl)) ?_
       refine d1q (i := 16) rfl (by kernel_rfl) (fun _ _ _ _ h => h) rfl rfl hn rfl (q_fieldAddrp rfl rfl Tryz.underlying91 rfl sz3 rfl) ?_
       refine d1q (i := 17) rfl (by kernel_rfl) (fun _ _ _ _ h => h) rfl rfl hn rfl (q_loadp rfl rfl Tryz.underlying3 rfl seesFA) ?_
       refine d1q (i := 18) rfl (by kernel_rfl) (fun _ _ _ _ h => h) rfl rfl hn rfl (q_move rfl rfl) ?_
       refine d1q (i := 19) rfl (by kernel_rfl) (fun _ _ _ _ h => h) rfl rfl hn rfl (q_move rfl rfl) ?_
       refine d1q (i := 20) rfl (by kernel_rfl) (fun _ _ _ _ h => h) rfl rfl hn rfl (q_index (i := i) rfl rfl rfl Tryz.underlying70 sz91 rfl (mget hsl)) ?_
       refine d1q (i := 21) rfl (by kernel_rfl) (fun _ _ _ _ h => h) rfl rfl hn rfl (q_fieldAddrp rfl rfl Tryz.underlying91 rfl sz3 rfl) ?_
       refine d1q (i := 22) rfl (by kernel_rfl) (fun _ _ _ _ h => h) rfl rfl hn rfl (q_loadp rfl rfl Tryz.underlying3 rfl seesFA) ?_
       refine d1q (i := 23) rfl (by kernel_rfl) (fun _ _ _ _ h => h) rfl rfl hn rfl (q_move rfl rfl) ?_
       refine d1q (i := 24) rfl (by kernel_rfl) (fun _ _ _ _ h => h) rfl rfl hn rfl (q_move rfl rfl) ?_
       refine d1q (i := 25) rfl (by kernel_rfl) (fun _ _ _ _ h => h) rfl rfl hn rfl (q_index (i := i) rfl rfl rfl Tryz.underlying70 sz91 rfl (mget hsl)) ?_
       refine d1q (i := 26) rfl (by kernel_rfl) (fun _ _ _ _ h => h) rfl rfl hn rfl (q_fieldAddrp rfl rfl Tryz.underlying91 rfl sz3 rfl) ?_
       refine d1q (i := 27) rfl (by kernel_rfl) (fun _ _ _ _ h => h) rfl rfl hn rfl (q_loadp rfl rfl Tryz.underlying3 rfl seesFA) ?_
       refine d1_of_d2 ?_
       refine d2_one (i := 1) (by kernel_rfl) rfl (s_call [] (fun _ => Board_ok b (by omega)) rfl (guard_none rfl) rfl (nb hn rfl) (fun _ => trivial) rfl rfl (.refl _)) fun _ => ?_
       refine d2_of_d1 (d1_of_d2 ?_)
       refine d2_one (i := 28) (by kernel_rfl) rfl (s_call [] (fun _ => between_ok _ _) rfl (guard_none rfl) rfl (nb hn rfl) (fun _ => trivial) rfl rfl (.refl _)) fun _ => ?_
       refine d2_of_d1 ?_
       refine d1q (i := 29) rfl (by kernel_rfl) (fun _ _ _ _ h => h) rfl rfl hn rfl (q_buildd rfl bt61 rfl rfl rfl rfl rfl) ?_
       refine d1_of_d2 ?_
       refine d2_one (i := 30) (by kernel_rfl) rfl (s_call [] (fun _ => (by have h := Find_ok b (prS b ws (soldL b ws)) ⟨sl.stock, sl.price, sl.number, sl.minute, sl.minute⟩ hN hS5; rw [hF] at h; exact h)) rfl (guard_none rfl) rfl (nb hn rfl) (fun _ => trivial) rfl rfl (.refl _)) fun _ => ?_
       refine d2_of_d1 ?_
       refine d1q (i := 31) rfl (by kernel_rfl) (fun _ _ _ _ h => h) rfl rfl hn rfl (q_move rfl rfl) ?_
       refine d1q (i := 32) rfl (by kernel_rfl) (fun _ _ _ _ h => h) rfl rfl hn rfl (q_extractd rfl rfl rfl) ?_
       refine d1q (i := 33) rfl (by kernel_rfl) (fun _ _ _ _ h => h) rfl rfl hn rfl (q_extractd rfl rfl rfl) ?_
       refine d1q (i := 34) rfl (by kernel_rfl) (fun _ _ _ _ h => h) rfl rfl hn rfl (q_assign rfl rfl) ?_
       refine d1q (i := 35) rfl (by kernel_rfl) (fun _ _ _ _ h => h) rfl rfl hn rfl (q_assign rfl rfl) ?_
       refine d1_of_d2 ?_
       refine d2_done (by kernel_rfl) ?_
       refine aend_then (awp_seq (awp_region ?_))
       refine sq rfl rfl hn rfl (q_assign rfl rfl) ?_
       refine run_nil (aend_then (awp_seq (awp_seq (awp_region ?_))))
       refine sq rfl rfl hn rfl (q_assign rfl rfl) ?_
       refine run_nil (aend_then (awp_block ?_))
       refine awp_loop_on (ι := {n : Nat // n ≤ fl.length}) (fun x => (21, true, .d (.int .i64 (x.1 : Nat))) :: (20, true, .d (.bool ((fl.take x.1).contains ((i : Nat) : Int)))) :: anys [256, 257, 258, 259, 262, 263, 264, 265, 266, 267, 268, 269, 270, 260, 261]) (fun x => []) (fun x => fl.length - x.1) ⟨0, Nat.zero_le _⟩ ⟨.inl rfl, .inl rfl, holdT_anys _⟩ trivial ?_
       rintro ⟨n, hn9⟩
       dsimp only
       refine awp_seq (awp_seq (awp_region ?_))
       refine sq rfl rfl hn rfl (q_move rfl rfl) ?_
       refine sq rfl rfl hn rfl (q_move rfl rfl) ?_
       refine sq rfl rfl hn rfl (q_len rfl rfl Tryz.underlying57) ?_
       refine sq rfl rfl hn rfl (q_lss rfl rfl rfl) ?_
       refine run_nil (aend_then ?_)
       refine awp_cond rfl (fun hb6 => ?_) (fun hb6 => ?_)
       ·
        have hnl : n < fl.length := by simp at hb6; omega
        obtain ⟨y, hy⟩ := ex_get hnl
        refine awp_skip (aend_then (awp_seq (awp_block (awp_region ?_))))
        refine sq rfl rfl hn rfl (q_move rfl rfl) ?_
        refine sq rfl rfl hn rfl (q_move rfl rfl) ?_
        refine stepG [] (guard_some rfl rfl rfl) rfl (nb hn rfl) (fun hc => trivial) (fun hc => q_move rfl rfl) ?_
        refine stepG [] (guard_some rfl rfl rfl) rfl (nb hn rfl) (fun hc => trivial) (fun hc => q_move rfl rfl) ?_
        refine stepG [(264, _), (265, _)] (guard_some rfl rfl rfl) rfl (nb hn rfl) (fun hc => ⟨⟨_, rfl, hc⟩, ⟨_, rfl, hc⟩, trivial⟩) (fun hc => q_index (i := n) rfl rfl rfl Tryz.underlying57 sz3 rfl (mget hy)) ?_
        refine stepG [(266, _)] (guard_some rfl rfl rfl) rfl (nb hn rfl) (fun hc => ⟨⟨_, rfl, hc⟩, trivial⟩) (fun hc => q_loadp rfl rfl Tryz.underlying3 rfl seesF0) ?_
        refine stepG [] (guard_some rfl rfl rfl) rfl (nb hn rfl) (fun hc => trivial) (fun hc => q_move rfl rfl) ?_
        refine stepG [(267, _), (268, _)] (guard_some rfl rfl rfl) rfl (nb hn rfl) (fun hc => ⟨⟨_, rfl, hc⟩, ⟨_, rfl, hc⟩, trivial⟩) (fun hc => q_eql rfl rfl rfl) ?_
        refine sq rfl rfl hn rfl (q_or rfl rfl rfl (by intro hB; first | (rw [hB]; rfl) | (rw [hB, hc]; rfl) | simp_all)) ?_
        refine sq rfl rfl hn rfl (q_assign rfl rfl) ?_
        refine run_nil (aend_block (aend_then (awp_region ?_)))
        refine sq rfl rfl hn rfl (q_move rfl rfl) ?_
        refine sq rfl rfl hn rfl (q_add rfl rfl rfl (r := ((n + 1 : Nat) : Int)) (i64w (by omega) (by omega))) ?_
        refine sq rfl rfl hn rfl (q_assign rfl rfl) ?_
        refine run_nil ?_
        exact aend_round_on ⟨n + 1, by omega⟩ ⟨.inl rfl, .inl (congrArg (fun z => some (true, TV.d (D.bool z))) (has_step hy)), holdT_anys _⟩ trivial (by simp only; omega) (by repeat (first | exact kr _ | refine kc rfl ?_)) (by repeat (first | exact kr _ | refine kc rfl ?_))
       ·
        obtain rfl : n = fl.length := by simp at hb6; omega
        have hfi : (fl.take fl.length).contains ((i : Nat) : Int) = true := by rw [List.take_length]; simpa using hmem
        refine awp_exit (aend_then_exit (aend_then_exit (aend_block_exit (aend_then (awp_seq (awp_region ?_))))))
        refine sq rfl rfl hn rfl (q_move rfl rfl) ?_
        refine sq rfl rfl hn rfl (q_neq rfl rfl rfl) ?_
        refine sq rfl rfl hn rfl (q_move rfl rfl) ?_
        refine stepG [] (guard_some rfl rfl rfl) rfl (nb hn rfl) (fun hc => trivial) (fun hc => q_move rfl rfl) ?_
        refine stepG [(274, _)] (guard_some rfl rfl rfl) rfl (nb hn rfl) (fun hc => ⟨⟨_, rfl, hc⟩, trivial⟩) (fun hc => q_not rfl rfl) ?_
        refine sq rfl rfl hn rfl (q_or rfl rfl rfl (by intro hB; first | (rw [hB]; rfl) | (rw [hB, hc]; rfl) | simp_all)) ?_
        refine run_nil (aend_then ?_)
        refine awp_cond rfl (fun hb7 => ?_) (fun hb7 => ?_)
        ·
         exact absurd hb7 (by rw [hfi]; simp)
        ·
         refine awp_skip (aend_block (aend_then (awp_region ?_)))
         refine sq rfl rfl hn rfl (q_move rfl rfl) ?_
         refine sq rfl rfl hn rfl (q_add rfl rfl rfl (r := ((i + 1 : Nat) : Int)) (i64w (by omega) (by omega))) ?_
         refine sq rfl rfl hn rfl (q_assign rfl rfl) ?_
         refine run_nil ?_
         exact aend_round_on ⟨i + 1, by omega⟩ ⟨.inl rfl, holdT_anys _⟩ trivial (by simp only; omega) (by repeat (first | exact kr _ | refine kc rfl ?_)) (by repeat (first | exact kr _ | refine kc rfl ?_))
    ·
     refine awp_exit (aend_then_exit (aend_then_exit (aend_block_exit (aend_then (awp_seq (awp_region ?_))))))
     refine stepW (s_call [] (fun _ => awake_ok) rfl (guard_none rfl) rfl (nb hn rfl) (fun _ => trivial) rfl rfl (.refl _)) fun _ => ?_
     refine sq rfl rfl hn rfl (q_assign rfl rfl) ?_
     refine run_nil (aend_then (awp_ret ?_))
     exact ret_1 (.inl rfl) hl rfl (.tmp rfl)
end Go.Proofs.YtplpcamcnppibaaGreatDoor
