/-
  A part of the proof that contangolaw.TapeEnds returns true: what the last text needs, and no more. No condition: no statement of the seat is proved here.
-/
import Derived.Test.YtplpcamcnppibaaGreatDoorTapeEndsM
namespace Go.Proofs.YtplpcamcnppibaaGreatDoor
open Go.RowKit
set_option maxRecDepth 20000
set_option linter.all false
set_option maxHeartbeats 4000000
def byd (hi : Bool) (n : Nat) : Int := bif hi then (n : Int) + 80 else (n : Int) - 80
theorem prices_of {b : Brd} {s : List UInt8} {R : List Prt} {ms : List Nat} (hr : readI b s = (R, 0)) (hm : levelsI b R [] = some ms) : pricesI b s = (ms.map bndN, 0) := by
  unfold pricesI; rw [hr]; simp only [bne_self_eq_false, cond_false]; rw [hm]
theorem prices_no {b : Brd} {s : List UInt8} {R : List Prt} (hr : readI b s = (R, 0)) (hm : levelsI b R [] = none) : pricesI b s = ([], 11) := by
  unfold pricesI; rw [hr]; simp only [bne_self_eq_false, cond_false]; rw [hm]
theorem ends0 {b : Brd} {l : List Sal} (h0 : checkT b = 0) (hs : SoldOK b l) : ∃ ms, readI b (pdS b l (-1) 0) = (pdB l, 0) ∧ levelsI b (pdB l) [] = some ms ∧ pricesI b (pdS b l (-1) 0) = (ms.map bndN, 0) ∧ ms.length = l.length := by
  have hr := pd_read (f := -1) (x := 0) h0 (by have := hs.l7; omega) hs.ok (.inl rfl)
  rw [pdL_no] at hr
  have hpo := (read_prts (b := b) (s := pdS b l (-1) 0)).1
  rw [hr] at hpo
  obtain ⟨ms, hms⟩ := Option.isSome_iff_exists.1 ((levels_iff (out := []) (o := 0) out_nil (valid_of h0) hpo).1.2 ⟨_, pd_tru hs.ok hs.jump⟩)
  exact ⟨ms, hr, hms, prices_of hr hms, by rw [levels_len hms, (pdB_says hs.ok).1]⟩
structure EndsL (b : Brd) (l : List Sal) (k : Nat) (hi : Bool) (ms : List Nat) (n : Nat) (t : List Int) (ms2 : List Nat) : Prop where
  en : (bif hi then (bndN (ms.getD k 0)).2 else (bndN (ms.getD k 0)).1) = (n : Int)
  n1 : 1 ≤ n ∧ n ≤ 799
  sh : showI b (pdS b l (-1) 0) (k : Int) hi = (t, 0)
  tl : t.length = l.length
  tk : t[k]? = some (n : Int)
  pv : proveI b (pdS b l (-1) 0) t = true
  pq : pricesI b (pdS b l (k : Int) n) = (ms2.map bndN, 0)
  ml : ms2.length = l.length
  kk : bndN (ms2.getD k 0) = ((n : Int), (n : Int))
  bd : ∀ i, i < l.length → (bndN (ms.getD i 0)).1 ≤ (bndN (ms2.getD i 0)).1 ∧ (bndN (ms2.getD i 0)).2 ≤ (bndN (ms.getD i 0)).2
  by9 : ∀ y : Nat, 1 ≤ y → y ≤ 799 → byd hi n = (y : Int) → pricesI b (pdS b l (k : Int) y) = ([], 11)
theorem fits_set {l : List Prt} {k : Nat} {x y : Int} {o : Nat} (h : refFits (l.getD k prt0) k x o = true) (hf : (l.getD k prt0).full = false) (hy : 1 ≤ y ∧ y ≤ 799) (hxy : y = x + 80 ∨ y = x - 80) : refFits (l.getD k prt0) k y o = true := by
  have hx := fits_bd h
  unfold refFits at h ⊢
  rw [within_iff.2 hy]
  rw [within_iff.2 hx] at h
  have e : y.tmod 80 = x.tmod 80 := by rw [tmod80 (by omega), tmod80 (by omega)]; omega
  rw [e]
  rw [hf] at h ⊢
  simpa using h
theorem ends_law {b : Brd} {l : List Sal} {ms : List Nat} {k : Nat} {hi : Bool} (h0 : checkT b = 0) (hs : SoldOK b l) (hr : readI b (pdS b l (-1) 0) = (pdB l, 0)) (hms : levelsI b (pdB l) [] = some ms) (hk : k < l.length) : ∃ n t ms2, EndsL b l k hi ms n t ms2 := by
  have v := valid_of h0
  have hl7 := hs.l7
  have hpo := (read_prts (b := b) (s := pdS b l (-1) 0)).1
  rw [hr] at hpo
  dsimp only at hpo
  have hbl := (pdB_says (b := b) hs.ok).1
  have hkR : k < (pdB l).length := by rw [hbl]; exact hk
  obtain ⟨lo, hi2, e, hlo, hhi, hall⟩ := lvl_bnd out_nil v hpo hms hkR
  obtain ⟨n, hn, ⟨f, hf, hfk⟩⟩ : ∃ n : Nat, (bif hi then (bndN (ms.getD k 0)).2 else (bndN (ms.getD k 0)).1) = (n : Int) ∧ ∃ f, TruF b (pdB l) 0 f ∧ f k = (n : Nat) := by
    rw [e]
    cases hi
    · exact ⟨lo, rfl, hlo⟩
    · exact ⟨hi2, rfl, hhi⟩
  have hn1 := (hf k hkR).bd
  obtain ⟨t, ht1, ht2⟩ := prc_law (hi := hi) v hpo hms hkR
  rw [hn] at ht2
  have hshow : showI b (pdS b l (-1) 0) (k : Int) hi = (t, 0) := by
    unfold showI
    rw [hr]
    simp only [bne_self_eq_false, cond_false]
    rw [within_iff.2 (show (0 : Int) ≤ (k : Nat) ∧ ((k : Nat) : Int) ≤ ((pdB l).length : Int) - 1 by omega), hms]
    simp only [Bool.not_true, cond_false, Option.isSome_some, Int.toNat_natCast]
    congr 1
    refine show_law v hpo hkR ?_
    have : showP b (pdB l) k hi = (n : Int) := by unfold showP; rw [hms, Option.getD_some]; exact hn
    rw [this]; exact ht2
  have hset : readI b (pdS b l (k : Int) n) = (setP (pdB l) k n, 0) := by
    rw [pd_read (f := (k : Int)) (x := n) h0 (by omega) hs.ok (.inr (by omega)), pdL_at (by omega) (by omega), Nat.sub_zero]
  have hpo2 := (read_prts (b := b) (s := pdS b l (k : Int) n)).1
  rw [hset] at hpo2
  dsimp only at hpo2
  have hiff := fun g => tru_set0 (b := b) (l := pdB l) (k := k) (x := (n : Int)) (f := g) hkR ⟨f, hf, hfk⟩
  obtain ⟨ms2, hms2⟩ := Option.isSome_iff_exists.1 ((levels_iff (out := []) (o := 0) out_nil v hpo2).1.2 ⟨f, (hiff f).2 ⟨hf, hfk⟩⟩)
  have hlen2 : (setP (pdB l) k (n : Int)).length = l.length := by rw [setP_len, hbl]
  have hlex : LexT b (setP (pdB l) k (n : Int)) t := by
    unfold firstOne at ht2
    rw [show refFits ((pdB l).getD k prt0) k (n : Int) 0 = true by rw [← hfk]; exact (hf k hkR).1, cond_true, clr_zero] at ht2
    exact first_lex v ht2
  have htr := (hiff _).1 hlex.2.1
  have htl : t.length = l.length := by rw [hlex.1, hlen2]
  refine ⟨n, t, ms2, hn, by omega, hshow, htl, ?_, ?_, prices_of hset hms2, by rw [levels_len hms2, hlen2], ?_, fun i hi3 => ?_, fun y hy1 hy2 hy => ?_⟩
  · obtain ⟨x, hx⟩ := ex_get (show k < t.length by omega)
    have := htr.2
    try dsimp only at this
    rw [getD_of hx] at this
    rw [hx, this]
  · rw [prove_law, hr]
    show ((0 : Int) == 0 && isTruthB b (pdB l) t 0) = true
    rw [isTruth_iff.2 ⟨by rw [htl, hbl], htr.1⟩]; rfl
  · obtain ⟨lo2, hi4, e2, ⟨f1, hf1, g1⟩, ⟨f2, hf2, g2⟩, _⟩ := lvl_bnd (out := []) (o := 0) out_nil v hpo2 hms2 (i := k) (by omega)
    rw [e2]
    have a1 := ((hiff f1).1 hf1).2
    have a2 := ((hiff f2).1 hf2).2
    simp only [Prod.mk.injEq]; omega
  · obtain ⟨lo2, hi4, e2, ⟨f1, hf1, g1⟩, ⟨f2, hf2, g2⟩, _⟩ := lvl_bnd (out := []) (o := 0) out_nil v hpo2 hms2 (i := i) (by omega)
    obtain ⟨lo3, hi5, e3, _, _, hall3⟩ := lvl_bnd (out := []) (o := 0) out_nil v hpo hms (i := i) (by omega)
    rw [e2, e3]
    have a1 := hall3 f1 ((hiff f1).1 hf1).1
    have a2 := hall3 f2 ((hiff f2).1 hf2).1
    simp only
    omega
  · have hrd : readI b (pdS b l (k : Int) y) = (setP (pdB l) k y, 0) := by
      rw [pd_read (f := (k : Int)) (x := y) h0 (by omega) hs.ok (.inr ⟨hy1, hy2⟩), pdL_at (by omega) (by omega), Nat.sub_zero]
    refine prices_no hrd ?_
    have hpo3 := (read_prts (b := b) (s := pdS b l (k : Int) y)).1
    rw [hrd] at hpo3
    dsimp only at hpo3
    cases hlv : levelsI b (setP (pdB l) k y) [] with
    | none => rfl
    | some ms3 =>
      exfalso
      obtain ⟨g, hg⟩ := (levels_iff (out := []) (o := 0) out_nil v hpo3).1.1 (by rw [hlv]; rfl)
      obtain ⟨s, hs1⟩ := ex_get hk
      have hfull : ((pdB l).getD k prt0).full = false := by rw [getD_of (l := pdB l) (by unfold pdB; rw [List.getElem?_map, hs1]; rfl)]
      have hfit : refFits ((pdB l).getD k prt0) k (y : Int) 0 = true := by
        refine fits_set (x := (n : Int)) (by rw [← hfk]; exact (hf k hkR).1) hfull (by omega) ?_
        rw [← hy]; unfold byd; cases hi <;> simp
      have h2 := tru_setP (b := b) (l := pdB l) (o := 0) (k := k) (x := (y : Int)) (f := g) (by decide) hkR hfit
      rw [clr_zero] at h2
      obtain ⟨h3, h4⟩ := h2.1 hg
      have h5 := hall g h3
      rw [e] at hn
      unfold byd at hy
      cases hi
      · simp only [cond_false] at hn hy; omega
      · simp only [cond_true] at hn hy; omega
theorem TapeEnds_ok (b : Brd) (ws : List Int) (wh : Nat) (hi : Bool) (hN : NamesOK b) (hw : WdsOK ws) (hwh : wh ≤ 255) : PureAt Tryz.prog 15 [brdD b, wdsD ws, .int .u8 (wh : Nat), .bool hi] (.bool true) := by
 refine PureAt.of_awp Tryz.func15 rfl (by kernel_rfl) (Nat.le_of_ble_eq_true rfl) fun Γ hn hl => ?_
 refine awp_seq (awp_region ?_)
 refine stepW (s_box 4 rfl rfl rfl (nb hn rfl) rfl rfl) fun b4 => ?_
 refine sq rfl rfl hn rfl (q_assign rfl rfl) ?_
 refine run_nil (aend_then (awp_seq (awp_seq (awp_region ?_))))
 refine sq rfl rfl hn rfl (q_loadAd rfl rfl (id := 4) rfl Tryz.underlying24 rfl sz24 rfl rfl sees0) ?_
 refine stepW (s_call [] (fun _ => ready_ok b hN) rfl (guard_none rfl) rfl (nb hn rfl) (fun _ => trivial) rfl rfl (.refl _)) fun _ => ?_
 refine sq rfl rfl hn rfl (q_not rfl rfl) ?_
 refine run_nil (aend_then ?_)
 refine awp_cond rfl (fun hb0 => ?_) (fun hb0 => ?_)
 ·
  refine awp_seq (awp_region ?_)
  refine stepW (s_call [] (fun _ => awake_ok) rfl (guard_none rfl) rfl (nb hn rfl) (fun _ => trivial) rfl rfl (.refl _)) fun _ => ?_
  refine sq rfl rfl hn rfl (q_assign rfl rfl) ?_
  refine run_nil (aend_then (awp_ret (aend_then_ret ?_)))
  exact ret_1 (.inl rfl) hl rfl (.tmp rfl)
 ·
  obtain ⟨h0, hb7⟩ := ready_is (b := b) (by simpa using hb0)
  have v := valid_of h0
  have hso := soldL_ok v hw
  have hl7 := hso.l7
  obtain ⟨ms, hr, hms, hp0, hml⟩ := ends0 h0 hso
  have hS5 := pd_len (f := -1) (x := 0) v (show (soldL b ws).length ≤ 8 by omega) hso.ok (.inl rfl)
  refine awp_skip (aend_then (awp_seq (awp_region ?_)))
  refine sq rfl rfl hn rfl (q_loadAd rfl rfl (id := 4) rfl Tryz.underlying24 rfl sz24 rfl rfl sees0) ?_
  refine sq rfl rfl hn rfl (q_move rfl rfl) ?_
  refine stepW (s_call [] (fun _ => Sold_ok b ws v hw) rfl (guard_none rfl) rfl (nb hn rfl) (fun _ => trivial) rfl rfl (.refl _)) fun _ => ?_
  refine sq rfl rfl hn rfl (q_assign rfl rfl) ?_
  refine run_nil (aend_then (awp_seq (awp_region ?_)))
  refine sq rfl rfl hn rfl (q_loadAd rfl rfl (id := 4) rfl Tryz.underlying24 rfl sz24 rfl rfl sees0) ?_
  refine sq rfl rfl hn rfl (q_move rfl rfl) ?_
  refine stepW (s_call [] (fun _ => printedS_ok b (soldL b ws) (-1) 0 v (by omega) hso.ok (.inl rfl)) rfl (guard_none rfl) rfl (nb hn rfl) (fun _ => trivial) rfl rfl (.refl _)) fun _ => ?_
  refine sq rfl rfl hn rfl (q_assign rfl rfl) ?_
  refine run_nil (aend_then (awp_seq (awp_region ?_)))
  refine sq rfl rfl hn rfl (q_loadAd rfl rfl (id := 4) rfl Tryz.underlying24 rfl sz24 rfl rfl sees0) ?_
  refine stepW (s_call [] (fun _ => Board_ok b (by omega)) rfl (guard_none rfl) rfl (nb hn rfl) (fun _ => trivial) rfl rfl (.refl _)) fun _ => ?_
  refine sq rfl rfl hn rfl (q_move rfl rfl) ?_
  refine stepW (s_call [] (fun _ => (by have h := Prices_ok b (pdS b (soldL b ws) (-1) 0) hN (by omega); rw [hp0] at h; exact h)) rfl (guard_none rfl) rfl (nb hn rfl) (fun _ => trivial) rfl rfl (.refl _)) fun _ => ?_
  refine sq rfl rfl hn rfl (q_move rfl rfl) ?_
  refine sq rfl rfl hn rfl (q_extractd rfl rfl rfl) ?_
  refine sq rfl rfl hn rfl (q_extractd rfl rfl rfl) ?_
  refine sq rfl rfl hn rfl (q_assign rfl rfl) ?_
  refine sq rfl rfl hn rfl (q_assign rfl rfl) ?_
  refine run_nil (aend_then (awp_seq (awp_seq (awp_region ?_))))
  refine sq rfl rfl hn rfl (q_move rfl rfl) ?_
  refine sq rfl rfl hn rfl (q_neq rfl rfl rfl) ?_
  refine sq rfl rfl hn rfl (q_move rfl rfl) ?_
  refine stepG [] (guard_some rfl rfl rfl) rfl (nb hn rfl) (fun hc => trivial) (fun hc => q_move rfl rfl) ?_
  refine stepG [(44, _)] (guard_some rfl rfl rfl) rfl (nb hn rfl) (fun hc => ⟨⟨_, rfl, hc⟩, trivial⟩) (fun hc => q_len rfl rfl Tryz.underlying48) ?_
  refine stepG [] (guard_some rfl rfl rfl) rfl (nb hn rfl) (fun hc => trivial) (fun hc => q_move rfl rfl) ?_
  refine stepG [(46, _)] (guard_some rfl rfl rfl) rfl (nb hn rfl) (fun hc => ⟨⟨_, rfl, hc⟩, trivial⟩) (fun hc => q_len rfl rfl Tryz.underlying70) ?_
  refine stepG [(45, _), (47, _)] (guard_some rfl rfl rfl) rfl (nb hn rfl) (fun hc => ⟨⟨_, rfl, hc⟩, ⟨_, rfl, hc⟩, trivial⟩) (fun hc => q_neq rfl rfl rfl) ?_
  refine sq rfl rfl hn rfl (q_or rfl rfl rfl (by intro hB; first | (rw [hB]; rfl) | (rw [hB, hc]; rfl) | simp_all)) ?_
  refine run_nil (aend_then ?_)
  refine awp_cond rfl (fun hb1 => ?_) (fun hb1 => ?_)
  ·
   exact absurd hb1 (by simp [hml])
  ·
   refine awp_skip (aend_then (awp_seq (awp_seq (awp_region ?_))))
   refine sq rfl rfl hn rfl (q_move rfl rfl) ?_
   refine sq rfl rfl hn rfl (q_len rfl rfl Tryz.underlying70) ?_
   refine sq rfl rfl hn rfl (q_eql rfl rfl rfl) ?_
   refine run_nil (aend_then ?_)
   refine awp_cond rfl (fun hb2 => ?_) (fun hb2 => ?_)
   ·
    refine awp_seq (awp_region ?_)
    refine stepW (s_call [] (fun _ => awake_ok) rfl (guard_none rfl) rfl (nb hn rfl) (fun _ => trivial) rfl rfl (.refl _)) fun _ => ?_
    refine sq rfl rfl hn rfl (q_assign rfl rfl) ?_
    refine run_nil (aend_then (awp_ret (aend_then_ret ?_)))
    exact ret_1 (.inl rfl) hl rfl (.tmp rfl)
   ·
    have hne : (soldL b ws).length ≠ 0 := by have h := hb2; simp only [beq_eq_false_iff_ne, List.length_map] at h; omega
    have hkl := Nat.mod_lt wh (show 0 < (soldL b ws).length by omega)
    obtain ⟨n, t, ms2, E⟩ := ends_law (hi := hi) h0 hso hr hms hkl
    obtain ⟨m, hm⟩ := ex_get (show (wh % (soldL b ws).length) < ms.length by omega)
    have hbm : (ms.map bndN)[(wh % (soldL b ws).length)]? = some (bndN m) := by rw [List.getElem?_map, hm]; rfl
    have hen := E.en
    rw [getD_of hm] at hen
    have hn1 := E.n1
    have hshow := E.sh
    have hpq := E.pq
    have htl := E.tl
    have hm2l := E.ml
    have hbk : (ms2.map bndN)[(wh % (soldL b ws).length)]? = some (((n : Nat) : Int), ((n : Nat) : Int)) := by obtain ⟨q, hq⟩ := ex_get (show (wh % (soldL b ws).length) < ms2.length by omega); have h := E.kk; rw [getD_of hq] at h; rw [List.getElem?_map, hq, ← h]; rfl
    have hX5 := pd_len (f := (((wh % (soldL b ws).length) : Nat) : Int)) (x := n) v (show (soldL b ws).length ≤ 8 by omega) hso.ok (.inr hn1)
    have hb1 := bndGo_bd m 800 (Nat.le_refl _)
    refine awp_skip (aend_then (awp_seq (awp_region ?_)))
    refine sq rfl rfl hn rfl (q_move rfl rfl) ?_
    refine sq rfl rfl hn rfl (q_conv rfl rfl Tryz.underlying5 Tryz.underlying3 (i64w (by omega) rfl)) ?_
    refine sq rfl rfl hn rfl (q_move rfl rfl) ?_
    refine sq rfl rfl hn rfl (q_len rfl rfl Tryz.underlying70) ?_
    refine sq rfl rfl hn rfl (q_rem rfl rfl rfl (r := (((wh % (soldL b ws).length) : Nat) : Int)) (by rw [List.length_map]; omega) (by rw [List.length_map]; exact modN (a := wh) (b := (soldL b ws).length) (by omega))) ?_
    refine sq rfl rfl hn rfl (q_assign rfl rfl) ?_
    refine run_nil (aend_then (awp_seq ?_))
    refine d_start (W := fun b => True) fmo ?_
    refine d1q (i := 0) rfl (by kernel_rfl) (fun _ _ _ _ h => h) rfl rfl hn rfl (q_move rfl rfl) ?_
    refine d1q (i := 1) rfl (by kernel_rfl) (fun _ _ _ _ h => h) rfl rfl hn rfl (q_move rfl rfl) ?_
    refine d1q (i := 2) rfl (by kernel_rfl) (fun _ _ _ _ h => h) rfl rfl hn rfl (q_index (i := (wh % (soldL b ws).length)) rfl rfl rfl Tryz.underlying48 sz45 rfl (mget hbm)) ?_
    refine d1q (i := 3) rfl (by kernel_rfl) (fun _ _ _ _ h => h) rfl rfl hn rfl (q_fieldAddrp rfl rfl Tryz.underlying45 rfl sz3 rfl) ?_
    refine d1q (i := 4) rfl (by kernel_rfl) (fun _ _ _ _ h => h) rfl rfl hn rfl (q_loadp rfl rfl Tryz.underlying3 rfl seesFA) ?_
    refine d1q (i := 5) rfl (by kernel_rfl) (fun _ _ _ _ h => h) rfl rfl hn rfl (q_move rfl rfl) ?_
    refine d1q (i := 6) rfl (by kernel_rfl) (fun _ _ _ _ h => h) rfl rfl hn rfl (q_move rfl rfl) ?_
    refine d1q (i := 7) rfl (by kernel_rfl) (fun _ _ _ _ h => h) rfl rfl hn rfl (q_index (i := (wh % (soldL b ws).length)) rfl rfl rfl Tryz.underlying48 sz45 rfl (mget hbm)) ?_
    refine d1q (i := 8) rfl (by kernel_rfl) (fun _ _ _ _ h => h) rfl rfl hn rfl (q_fieldAddrp rfl rfl Tryz.underlying45 rfl sz3 rfl) ?_
    refine d1q (i := 9) rfl (by kernel_rfl) (fun _ _ _ _ h => h) rfl rfl hn rfl (q_loadp rfl rfl Tryz.underlying3 rfl seesFA) ?_
    refine d1q (i := 10) rfl (by kernel_rfl) (fun _ _ _ _ h => h) rfl rfl hn rfl (q_sub rfl rfl rfl (r := (bndN m).1 - 80) (i64w (by have h := hb1; unfold bndN; omega) rfl)) ?_
    refine d1q (i := 11) rfl (by kernel_rfl) (fun _ _ _ _ h => h) rfl rfl hn rfl (q_assign rfl rfl) ?_
    refine d1q (i := 12) rfl (by kernel_rfl) (fun _ _ _ _ h => h) rfl rfl hn rfl (q_assign rfl rfl) ?_
    refine d1_of_d2 ?_
    refine d2_done (by kernel_rfl) ?_
    refine aend_then (awp_seq (awp_seq (awp_region ?_)))
    refine sq rfl rfl hn rfl (q_move rfl rfl) ?_
    refine run_nil (aend_then ?_)
    refine awp_join_on (e := .normal) (ι := Unit) (fun u0 => (14, true, .d (.int .i64 ((n : Nat) : Int))) :: (15, true, .d (.int .i64 (byd hi n))) :: anys [71, 72, 73, 74, 75, 76, 77, 78, 79, 80, 81]) (fun u0 => []) (fun hJ3 => ?_) ?_
    ·
     refine awp_cond rfl (fun hb3 => ?_) (fun hb3 => ?_)
     ·
      have q3 : hi = true := hb3
      have e3 : (bndN m).2 = (n : Int) := by rw [q3] at hen; exact hen
      have e4 : (bndN m).2 + 80 = byd hi n := by rw [e3, q3]; rfl
      refine d_start (W := fun b => True) fmo ?_
      refine d1q (i := 0) rfl (by kernel_rfl) (fun _ _ _ _ h => h) rfl rfl hn rfl (q_move rfl rfl) ?_
      refine d1q (i := 1) rfl (by kernel_rfl) (fun _ _ _ _ h => h) rfl rfl hn rfl (q_move rfl rfl) ?_
      refine d1q (i := 2) rfl (by kernel_rfl) (fun _ _ _ _ h => h) rfl rfl hn rfl (q_index (i := (wh % (soldL b ws).length)) rfl rfl rfl Tryz.underlying48 sz45 rfl (mget hbm)) ?_
      refine d1q (i := 3) rfl (by kernel_rfl) (fun _ _ _ _ h => h) rfl rfl hn rfl (q_fieldAddrp rfl rfl Tryz.underlying45 rfl sz3 rfl) ?_
      refine d1q (i := 4) rfl (by kernel_rfl) (fun _ _ _ _ h => h) rfl rfl hn rfl (q_loadp rfl rfl Tryz.underlying3 rfl seesFA) ?_
      refine d1q (i := 5) rfl (by kernel_rfl) (fun _ _ _ _ h => h) rfl rfl hn rfl (q_move rfl rfl) ?_
      refine d1q (i := 6) rfl (by kernel_rfl) (fun _ _ _ _ h => h) rfl rfl hn rfl (q_move rfl rfl) ?_
      refine d1q (i := 7) rfl (by kernel_rfl) (fun _ _ _ _ h => h) rfl rfl hn rfl (q_index (i := (wh % (soldL b ws).length)) rfl rfl rfl Tryz.underlying48 sz45 rfl (mget hbm)) ?_
      refine d1q (i := 8) rfl (by kernel_rfl) (fun _ _ _ _ h => h) rfl rfl hn rfl (q_fieldAddrp rfl rfl Tryz.underlying45 rfl sz3 rfl) ?_
      refine d1q (i := 9) rfl (by kernel_rfl) (fun _ _ _ _ h => h) rfl rfl hn rfl (q_loadp rfl rfl Tryz.underlying3 rfl seesFA) ?_
      refine d1q (i := 10) rfl (by kernel_rfl) (fun _ _ _ _ h => h) rfl rfl hn rfl (q_add rfl rfl rfl (r := (bndN m).2 + 80) (i64w (by have h := hb1; unfold bndN; omega) rfl)) ?_
      refine d1q (i := 11) rfl (by kernel_rfl) (fun _ _ _ _ h => h) rfl rfl hn rfl (q_assign rfl rfl) ?_
      refine d1q (i := 12) rfl (by kernel_rfl) (fun _ _ _ _ h => h) rfl rfl hn rfl (q_assign rfl rfl) ?_
      refine d1_of_d2 ?_
      refine d2_done (by kernel_rfl) ?_
      exact aend_join_on hJ3 () ⟨.inl (congrArg (fun z => some (true, TV.d (D.int .i64 z))) e3), .inl (congrArg (fun z => some (true, TV.d (D.int .i64 z))) e4), holdT_anys _⟩ trivial (by repeat (first | exact kr _ | refine kc rfl ?_)) (by repeat (first | exact kr _ | refine kc rfl ?_))
     ·
      have q3 : hi = false := hb3
      have e3 : (bndN m).1 = (n : Int) := by rw [q3] at hen; exact hen
      have e4 : (bndN m).1 - 80 = byd hi n := by rw [e3, q3]; rfl
      refine awp_skip ?_
      exact aend_join_on hJ3 () ⟨.inl (congrArg (fun z => some (true, TV.d (D.int .i64 z))) e3), .inl (congrArg (fun z => some (true, TV.d (D.int .i64 z))) e4), holdT_anys _⟩ trivial (by repeat (first | exact kr _ | refine kc rfl ?_)) (by repeat (first | exact kr _ | refine kc rfl ?_))
    ·
     rintro _
     refine aend_then (awp_seq (awp_region ?_))
     refine sq rfl rfl hn rfl (q_loadAd rfl rfl (id := 4) rfl Tryz.underlying24 rfl sz24 rfl rfl sees0) ?_
     refine stepW (s_call [] (fun _ => Board_ok b (by omega)) rfl (guard_none rfl) rfl (nb hn rfl) (fun _ => trivial) rfl rfl (.refl _)) fun _ => ?_
     refine sq rfl rfl hn rfl (q_move rfl rfl) ?_
     refine sq rfl rfl hn rfl (q_move rfl rfl) ?_
     refine sq rfl rfl hn rfl (q_move rfl rfl) ?_
     refine stepW (s_call [] (fun _ => (by have h := Show_ok b (pdS b (soldL b ws) (-1) 0) (((wh % (soldL b ws).length) : Nat) : Int) hi hN (by omega); rw [hshow] at h; exact h)) rfl (guard_none rfl) rfl (nb hn rfl) (fun _ => trivial) rfl rfl (.refl _)) fun _ => ?_
     refine sq rfl rfl hn rfl (q_move rfl rfl) ?_
     refine sq rfl rfl hn rfl (q_extractd rfl rfl rfl) ?_
     refine sq rfl rfl hn rfl (q_extractd rfl rfl rfl) ?_
     refine sq rfl rfl hn rfl (q_assign rfl rfl) ?_
     refine sq rfl rfl hn rfl (q_assign rfl rfl) ?_
     refine run_nil (aend_then (awp_seq (awp_region ?_)))
     refine sq rfl rfl hn rfl (q_loadAd rfl rfl (id := 4) rfl Tryz.underlying24 rfl sz24 rfl rfl sees0) ?_
     refine sq rfl rfl hn rfl (q_move rfl rfl) ?_
     refine sq rfl rfl hn rfl (q_move rfl rfl) ?_
     refine sq rfl rfl hn rfl (q_move rfl rfl) ?_
     refine stepW (s_call [] (fun _ => printedS_ok b (soldL b ws) (((wh % (soldL b ws).length) : Nat) : Int) n v (by omega) hso.ok (.inr hn1)) rfl (guard_none rfl) rfl (nb hn rfl) (fun _ => trivial) rfl rfl (.refl _)) fun _ => ?_
     refine sq rfl rfl hn rfl (q_assign rfl rfl) ?_
     refine run_nil (aend_then (awp_seq (awp_region ?_)))
     refine sq rfl rfl hn rfl (q_loadAd rfl rfl (id := 4) rfl Tryz.underlying24 rfl sz24 rfl rfl sees0) ?_
     refine stepW (s_call [] (fun _ => Board_ok b (by omega)) rfl (guard_none rfl) rfl (nb hn rfl) (fun _ => trivial) rfl rfl (.refl _)) fun _ => ?_
     refine sq rfl rfl hn rfl (q_move rfl rfl) ?_
     refine stepW (s_call [] (fun _ => (by have h := Prices_ok b (pdS b (soldL b ws) (((wh % (soldL b ws).length) : Nat) : Int) n) hN (by omega); rw [hpq] at h; exact h)) rfl (guard_none rfl) rfl (nb hn rfl) (fun _ => trivial) rfl rfl (.refl _)) fun _ => ?_
     refine sq rfl rfl hn rfl (q_move rfl rfl) ?_
     refine sq rfl rfl hn rfl (q_extractd rfl rfl rfl) ?_
     refine sq rfl rfl hn rfl (q_extractd rfl rfl rfl) ?_
     refine sq rfl rfl hn rfl (q_assign rfl rfl) ?_
     refine sq rfl rfl hn rfl (q_assign rfl rfl) ?_
     refine run_nil (aend_then (awp_seq (awp_seq ?_)))
     refine d_start (W := fun b => b ≠ b4) fmo ?_
     refine d1q (i := 0) rfl (by kernel_rfl) (fun _ _ _ _ h => h) rfl rfl hn rfl (q_move rfl rfl) ?_
     refine d1q (i := 1) rfl (by kernel_rfl) (fun _ _ _ _ h => h) rfl rfl hn rfl (q_neq rfl rfl rfl) ?_
     refine d1q (i := 2) rfl (by kernel_rfl) (fun _ _ _ _ h => h) rfl rfl hn rfl (q_move rfl rfl) ?_
     refine d1g (i := 3) [] rfl (by kernel_rfl) (fun _ _ _ _ h => h) (guard_some rfl rfl rfl) rfl hn rfl (fun hc => trivial) (fun hc => q_move rfl rfl) ?_
     refine d1g (i := 4) [(106, _)] rfl (by kernel_rfl) (fun _ _ _ _ h => h) (guard_some rfl rfl rfl) rfl hn rfl (fun hc => ⟨⟨_, rfl, hc⟩, trivial⟩) (fun hc => q_len rfl rfl Tryz.underlying57) ?_
     refine d1g (i := 5) [] rfl (by kernel_rfl) (fun _ _ _ _ h => h) (guard_some rfl rfl rfl) rfl hn rfl (fun hc => trivial) (fun hc => q_move rfl rfl) ?_
     refine d1g (i := 6) [(108, _)] rfl (by kernel_rfl) (fun _ _ _ _ h => h) (guard_some rfl rfl rfl) rfl hn rfl (fun hc => ⟨⟨_, rfl, hc⟩, trivial⟩) (fun hc => q_len rfl rfl Tryz.underlying70) ?_
     refine d1g (i := 7) [(107, _), (109, _)] rfl (by kernel_rfl) (fun _ _ _ _ h => h) (guard_some rfl rfl rfl) rfl hn rfl (fun hc => ⟨⟨_, rfl, hc⟩, ⟨_, rfl, hc⟩, trivial⟩) (fun hc => q_neq rfl rfl rfl) ?_
     refine d1q (i := 8) rfl (by kernel_rfl) (fun _ _ _ _ h => h) rfl rfl hn rfl (q_or rfl rfl rfl (by intro hB; first | (rw [hB]; rfl) | (rw [hB, hc]; rfl) | simp_all)) ?_
     refine d1q (i := 9) rfl (by kernel_rfl) (fun _ _ _ _ h => h) rfl rfl hn rfl (q_move rfl rfl) ?_
     refine d1g (i := 10) [] rfl (by kernel_rfl) (fun _ _ _ _ h => h) (guard_some rfl rfl rfl) rfl hn rfl (fun hc => trivial) (fun hc => q_move rfl rfl) ?_
     refine d1g (i := 11) [] rfl (by kernel_rfl) (fun _ _ _ _ h => h) (guard_some rfl rfl rfl) rfl hn rfl (fun hc => trivial) (fun hc => q_move rfl rfl) ?_
     refine d1g (i := 12) [(113, _), (114, _)] rfl (by kernel_rfl) (fun _ _ _ _ h => h) (guard_some rfl rfl rfl) rfl hn rfl (fun hc => ⟨⟨_, rfl, hc⟩, ⟨_, rfl, hc⟩, trivial⟩) (fun hc => q_index (i := (wh % (soldL b ws).length)) rfl rfl rfl Tryz.underlying57 sz3 rfl (mget E.tk)) ?_
     refine d1g (i := 13) [(115, _)] rfl (by kernel_rfl) (fun _ _ _ _ h => h) (guard_some rfl rfl rfl) rfl hn rfl (fun hc => ⟨⟨_, rfl, hc⟩, trivial⟩) (fun hc => q_loadp rfl rfl Tryz.underlying3 rfl seesFA) ?_
     refine d1g (i := 14) [] rfl (by kernel_rfl) (fun _ _ _ _ h => h) (guard_some rfl rfl rfl) rfl hn rfl (fun hc => trivial) (fun hc => q_move rfl rfl) ?_
     refine d1g (i := 15) [(116, _), (117, _)] rfl (by kernel_rfl) (fun _ _ _ _ h => h) (guard_some rfl rfl rfl) rfl hn rfl (fun hc => ⟨⟨_, rfl, hc⟩, ⟨_, rfl, hc⟩, trivial⟩) (fun hc => q_neq rfl rfl rfl) ?_
     refine d1q (i := 16) rfl (by kernel_rfl) (fun _ _ _ _ h => h) rfl rfl hn rfl (q_or rfl rfl rfl (by intro hB; first | (rw [hB]; rfl) | (rw [hB, hc]; rfl) | simp_all)) ?_
     refine d1q (i := 17) rfl (by kernel_rfl) (fun _ _ _ _ h => h) rfl rfl hn rfl (q_move rfl rfl) ?_
     refine d1g (i := 18) [] rfl (by kernel_rfl) (fun _ _ _ _ h => h) (guard_some rfl rfl rfl) rfl hn rfl (fun hc => trivial) (fun hc => q_loadAd rfl rfl (id := 4) rfl Tryz.underlying24 rfl sz24 rfl rfl (seesA (by simp))) ?_
     refine d1g (i := 20) [] rfl (by kernel_rfl) (fun _ _ _ _ h => h) (guard_some rfl rfl rfl) rfl hn rfl (fun hc => trivial) (fun hc => q_move rfl rfl) ?_
     refine d1g (i := 21) [] rfl (by kernel_rfl) (fun _ _ _ _ h => h) (guard_some rfl rfl rfl) rfl hn rfl (fun hc => trivial) (fun hc => q_move rfl rfl) ?_
     refine d1_of_d2 ?_
     refine d2_one (i := 19) (by kernel_rfl) rfl (s_call [(121, _)] (fun hc => Board_ok b (by omega)) rfl (guard_some rfl rfl rfl) rfl (nb hn rfl) (fun hc => ⟨⟨_, rfl, hc⟩, trivial⟩) rfl rfl (.refl _)) fun _ => ?_
     refine d2_of_d1 (d1_of_d2 ?_)
     refine d2_one (i := 22) (by kernel_rfl) rfl (s_call [(122, _), (123, _), (124, _)] (fun hc => ProveTruth_ok b (pdS b (soldL b ws) (-1) 0) t hN (by omega)) rfl (guard_some rfl rfl rfl) rfl (nb hn rfl) (fun hc => ⟨⟨_, rfl, hc⟩, ⟨_, rfl, hc⟩, ⟨_, rfl, hc⟩, trivial⟩) rfl rfl (.refl _)) fun _ => ?_
     refine d2_of_d1 ?_
     refine d1g (i := 23) [(125, _)] rfl (by kernel_rfl) (fun _ _ _ _ h => h) (guard_some rfl rfl rfl) rfl hn rfl (fun hc => ⟨⟨_, rfl, hc⟩, trivial⟩) (fun hc => q_not rfl rfl) ?_
     refine d1q (i := 24) rfl (by kernel_rfl) (fun _ _ _ _ h => h) rfl rfl hn rfl (q_or rfl rfl rfl (by intro hB; first | (rw [hB]; rfl) | (rw [hB, hc]; rfl) | simp_all)) ?_
     refine d1q (i := 25) rfl (by kernel_rfl) (fun _ _ _ _ h => h) rfl rfl hn rfl (q_move rfl rfl) ?_
     refine d1g (i := 26) [] rfl (by kernel_rfl) (fun _ _ _ _ h => h) (guard_some rfl rfl rfl) rfl hn rfl (fun hc => trivial) (fun hc => q_move rfl rfl) ?_
     refine d1g (i := 27) [(129, _)] rfl (by kernel_rfl) (fun _ _ _ _ h => h) (guard_some rfl rfl rfl) rfl hn rfl (fun hc => ⟨⟨_, rfl, hc⟩, trivial⟩) (fun hc => q_neq rfl rfl rfl) ?_
     refine d1q (i := 28) rfl (by kernel_rfl) (fun _ _ _ _ h => h) rfl rfl hn rfl (q_or rfl rfl rfl (by intro hB; first | (rw [hB]; rfl) | (rw [hB, hc]; rfl) | simp_all)) ?_
     refine d1q (i := 29) rfl (by kernel_rfl) (fun _ _ _ _ h => h) rfl rfl hn rfl (q_move rfl rfl) ?_
     refine d1g (i := 30) [] rfl (by kernel_rfl) (fun _ _ _ _ h => h) (guard_some rfl rfl rfl) rfl hn rfl (fun hc => trivial) (fun hc => q_move rfl rfl) ?_
     refine d1g (i := 31) [(133, _)] rfl (by kernel_rfl) (fun _ _ _ _ h => h) (guard_some rfl rfl rfl) rfl hn rfl (fun hc => ⟨⟨_, rfl, hc⟩, trivial⟩) (fun hc => q_len rfl rfl Tryz.underlying48) ?_
     refine d1g (i := 32) [] rfl (by kernel_rfl) (fun _ _ _ _ h => h) (guard_some rfl rfl rfl) rfl hn rfl (fun hc => trivial) (fun hc => q_move rfl rfl) ?_
     refine d1g (i := 33) [(135, _)] rfl (by kernel_rfl) (fun _ _ _ _ h => h) (guard_some rfl rfl rfl) rfl hn rfl (fun hc => ⟨⟨_, rfl, hc⟩, trivial⟩) (fun hc => q_len rfl rfl Tryz.underlying70) ?_
     refine d1g (i := 34) [(134, _), (136, _)] rfl (by kernel_rfl) (fun _ _ _ _ h => h) (guard_some rfl rfl rfl) rfl hn rfl (fun hc => ⟨⟨_, rfl, hc⟩, ⟨_, rfl, hc⟩, trivial⟩) (fun hc => q_neq rfl rfl rfl) ?_
     refine d1q (i := 35) rfl (by kernel_rfl) (fun _ _ _ _ h => h) rfl rfl hn rfl (q_or rfl rfl rfl (by intro hB; first | (rw [hB]; rfl) | (rw [hB, hc]; rfl) | simp_all)) ?_
     refine d1q (i := 36) rfl (by kernel_rfl) (fun _ _ _ _ h => h) rfl rfl hn rfl (q_move rfl rfl) ?_
     refine d1g (i := 37) [] rfl (by kernel_rfl) (fun _ _ _ _ h => h) (guard_some rfl rfl rfl) rfl hn rfl (fun hc => trivial) (fun hc => q_move rfl rfl) ?_
     refine d1g (i := 38) [] rfl (by kernel_rfl) (fun _ _ _ _ h => h) (guard_some rfl rfl rfl) rfl hn rfl (fun hc => trivial) (fun hc => q_move rfl rfl) ?_
     refine d1g (i := 39) [(140, _), (141, _)] rfl (by kernel_rfl) (fun _ _ _ _ h => h) (guard_some rfl rfl rfl) rfl hn rfl (fun hc => ⟨⟨_, rfl, hc⟩, ⟨_, rfl, hc⟩, trivial⟩) (fun hc => q_index (i := (wh % (soldL b ws).length)) rfl rfl rfl Tryz.underlying48 sz45 rfl (mget hbk)) ?_
     refine d1g (i := 40) [(142, _)] rfl (by kernel_rfl) (fun _ _ _ _ h => h) (guard_some rfl rfl rfl) rfl hn rfl (fun hc => ⟨⟨_, rfl, hc⟩, trivial⟩) (fun hc => q_loadpA rfl rfl Tryz.underlying45 rfl sz45 rfl rfl seesFA) ?_
     refine d1g (i := 41) [] rfl (by kernel_rfl) (fun _ _ _ _ h => h) (guard_some rfl rfl rfl) rfl hn rfl (fun hc => trivial) (fun hc => q_move rfl rfl) ?_
     refine d1g (i := 42) [] rfl (by kernel_rfl) (fun _ _ _ _ h => h) (guard_some rfl rfl rfl) rfl hn rfl (fun hc => trivial) (fun hc => q_move rfl rfl) ?_
     refine d1_of_d2 ?_
     refine d2_one (i := 43) (by kernel_rfl) rfl (s_call [(144, _), (145, _)] (fun hc => between_ok _ _) rfl (guard_some rfl rfl rfl) rfl (nb hn rfl) (fun hc => ⟨⟨_, rfl, hc⟩, ⟨_, rfl, hc⟩, trivial⟩) rfl rfl (.refl _)) fun _ => ?_
     refine d2_of_d1 ?_
     refine d1g (i := 44) [(143, _), (146, _)] rfl (by kernel_rfl) (fun _ _ _ _ h => h) (guard_some rfl rfl rfl) rfl hn rfl (fun hc => ⟨⟨_, rfl, hc⟩, ⟨_, rfl, hc⟩, trivial⟩) (fun hc => q_neq45 rfl rfl rfl) ?_
     refine d1q (i := 45) rfl (by kernel_rfl) (fun _ _ _ _ h => h) rfl rfl hn rfl (q_or rfl rfl rfl (by intro hB; first | (rw [hB]; rfl) | (rw [hB, hc]; rfl) | simp_all)) ?_
     refine d1_of_d2 ?_
     refine d2_done (by kernel_rfl) ?_
     refine aend_then ?_
     refine awp_cond rfl (fun hb4 => ?_) (fun hb4 => ?_)
     ·
      exact absurd hb4 (by rw [E.pv]; simp [htl, hm2l])
     ·
      refine awp_skip (aend_then (awp_seq (awp_seq (awp_region ?_))))
      refine sq rfl rfl hn rfl (q_assign rfl rfl) ?_
      refine run_nil (aend_then (awp_block ?_))
      refine awp_loop_on (ι := {i : Nat // i ≤ (soldL b ws).length}) (fun x => (21, true, .d (.int .i64 (x.1 : Nat))) :: anys [149, 150, 151, 152, 155, 156, 157, 158, 159, 160, 161, 162, 163, 164, 165, 166, 167, 168, 169, 170, 171, 172, 173, 174, 175, 176, 177, 178, 153, 154]) (fun x => []) (fun x => (soldL b ws).length - x.1) ⟨0, Nat.zero_le _⟩ ⟨.inl rfl, holdT_anys _⟩ trivial ?_
      rintro ⟨i, hi9⟩
      dsimp only
      refine awp_seq (awp_seq (awp_region ?_))
      refine sq rfl rfl hn rfl (q_move rfl rfl) ?_
      refine sq rfl rfl hn rfl (q_move rfl rfl) ?_
      refine sq rfl rfl hn rfl (q_len rfl rfl Tryz.underlying70) ?_
      refine sq rfl rfl hn rfl (q_lss rfl rfl rfl) ?_
      refine run_nil (aend_then ?_)
      refine awp_cond rfl (fun hb5 => ?_) (fun hb5 => ?_)
      ·
       have hil : i < (soldL b ws).length := by simp at hb5; omega
       obtain ⟨x1, hx1⟩ := ex_get (show i < ms.length by omega)
       obtain ⟨x2, hx2⟩ := ex_get (show i < ms2.length by omega)
       have hbd := E.bd i hil
       rw [getD_of hx1, getD_of hx2] at hbd
       have hA : (ms.map bndN)[i]? = some (bndN x1) := by rw [List.getElem?_map, hx1]; rfl
       have hB : (ms2.map bndN)[i]? = some (bndN x2) := by rw [List.getElem?_map, hx2]; rfl
       refine awp_skip (aend_then (awp_seq (awp_block (awp_seq ?_))))
       refine d_start (W := fun b => True) fmo ?_
       refine d1q (i := 0) rfl (by kernel_rfl) (fun _ _ _ _ h => h) rfl rfl hn rfl (q_move rfl rfl) ?_
       refine d1q (i := 1) rfl (by kernel_rfl) (fun _ _ _ _ h => h) rfl rfl hn rfl (q_move rfl rfl) ?_
       refine d1q (i := 2) rfl (by kernel_rfl) (fun _ _ _ _ h => h) rfl rfl hn rfl (q_index (i := i) rfl rfl rfl Tryz.underlying48 sz45 rfl (mget hB)) ?_
       refine d1q (i := 3) rfl (by kernel_rfl) (fun _ _ _ _ h => h) rfl rfl hn rfl (q_fieldAddrp rfl rfl Tryz.underlying45 rfl sz3 rfl) ?_
       refine d1q (i := 4) rfl (by kernel_rfl) (fun _ _ _ _ h => h) rfl rfl hn rfl (q_loadp rfl rfl Tryz.underlying3 rfl seesFA) ?_
       refine d1q (i := 5) rfl (by kernel_rfl) (fun _ _ _ _ h => h) rfl rfl hn rfl (q_move rfl rfl) ?_
       refine d1q (i := 6) rfl (by kernel_rfl) (fun _ _ _ _ h => h) rfl rfl hn rfl (q_move rfl rfl) ?_
       refine d1q (i := 7) rfl (by kernel_rfl) (fun _ _ _ _ h => h) rfl rfl hn rfl (q_index (i := i) rfl rfl rfl Tryz.underlying48 sz45 rfl (mget hA)) ?_
       refine d1q (i := 8) rfl (by kernel_rfl) (fun _ _ _ _ h => h) rfl rfl hn rfl (q_fieldAddrp rfl rfl Tryz.underlying45 rfl sz3 rfl) ?_
       refine d1q (i := 9) rfl (by kernel_rfl) (fun _ _ _ _ h => h) rfl rfl hn rfl (q_loadp rfl rfl Tryz.underlying3 rfl seesFA) ?_
       refine d1q (i := 10) rfl (by kernel_rfl) (fun _ _ _ _ h => h) rfl rfl hn rfl (q_lss rfl rfl rfl) ?_
       refine d1q (i := 11) rfl (by kernel_rfl) (fun _ _ _ _ h => h) rfl rfl hn rfl (q_move rfl rfl) ?_
       refine d1g (i := 12) [] rfl (by kernel_rfl) (fun _ _ _ _ h => h) (guard_some rfl rfl rfl) rfl hn rfl (fun hc => trivial) (fun hc => q_move rfl rfl) ?_
       refine d1g (i := 13) [] rfl (by kernel_rfl) (fun _ _ _ _ h => h) (guard_some rfl rfl rfl) rfl hn rfl (fun hc => trivial) (fun hc => q_move rfl rfl) ?_
       refine d1g (i := 14) [(167, _), (168, _)] rfl (by kernel_rfl) (fun _ _ _ _ h => h) (guard_some rfl rfl rfl) rfl hn rfl (fun hc => ⟨⟨_, rfl, hc⟩, ⟨_, rfl, hc⟩, trivial⟩) (fun hc => q_index (i := i) rfl rfl rfl Tryz.underlying48 sz45 rfl (mget hB)) ?_
       refine d1g (i := 15) [(169, _)] rfl (by kernel_rfl) (fun _ _ _ _ h => h) (guard_some rfl rfl rfl) rfl hn rfl (fun hc => ⟨⟨_, rfl, hc⟩, trivial⟩) (fun hc => q_fieldAddrp rfl rfl Tryz.underlying45 rfl sz3 rfl) ?_
       refine d1g (i := 16) [(170, _)] rfl (by kernel_rfl) (fun _ _ _ _ h => h) (guard_some rfl rfl rfl) rfl hn rfl (fun hc => ⟨⟨_, rfl, hc⟩, trivial⟩) (fun hc => q_loadp rfl rfl Tryz.underlying3 rfl seesFA) ?_
       refine d1g (i := 17) [] rfl (by kernel_rfl) (fun _ _ _ _ h => h) (guard_some rfl rfl rfl) rfl hn rfl (fun hc => trivial) (fun hc => q_move rfl rfl) ?_
       refine d1g (i := 18) [] rfl (by kernel_rfl) (fun _ _ _ _ h => h) (guard_some rfl rfl rfl) rfl hn rfl (fun hc => trivial) (fun hc => q_move rfl rfl) ?_
       refine d1g (i := 19) [(172, _), (173, _)] rfl (by kernel_rfl) (fun _ _ _ _ h => h) (guard_some rfl rfl rfl) rfl hn rfl (fun hc => ⟨⟨_, rfl, hc⟩, ⟨_, rfl, hc⟩, trivial⟩) (fun hc => q_index (i := i) rfl rfl rfl Tryz.underlying48 sz45 rfl (mget hA)) ?_
       refine d1g (i := 20) [(174, _)] rfl (by kernel_rfl) (fun _ _ _ _ h => h) (guard_some rfl rfl rfl) rfl hn rfl (fun hc => ⟨⟨_, rfl, hc⟩, trivial⟩) (fun hc => q_fieldAddrp rfl rfl Tryz.underlying45 rfl sz3 rfl) ?_
       refine d1g (i := 21) [(175, _)] rfl (by kernel_rfl) (fun _ _ _ _ h => h) (guard_some rfl rfl rfl) rfl hn rfl (fun hc => ⟨⟨_, rfl, hc⟩, trivial⟩) (fun hc => q_loadp rfl rfl Tryz.underlying3 rfl seesFA) ?_
       refine d1g (i := 22) [(171, _), (176, _)] rfl (by kernel_rfl) (fun _ _ _ _ h => h) (guard_some rfl rfl rfl) rfl hn rfl (fun hc => ⟨⟨_, rfl, hc⟩, ⟨_, rfl, hc⟩, trivial⟩) (fun hc => q_gtr rfl rfl rfl) ?_
       refine d1q (i := 23) rfl (by kernel_rfl) (fun _ _ _ _ h => h) rfl rfl hn rfl (q_or rfl rfl rfl (by intro hB; first | (rw [hB]; rfl) | (rw [hB, hc]; rfl) | simp_all)) ?_
       refine d1_of_d2 ?_
       refine d2_done (by kernel_rfl) ?_
       refine aend_then ?_
       refine awp_cond rfl (fun hb6 => ?_) (fun hb6 => ?_)
       ·
        exfalso; have h := hb6; rw [Bool.or_eq_true] at h; rcases h with h | h <;> (have h2 := of_decide_eq_true h; omega)
       ·
        refine awp_skip (aend_block (aend_then (awp_region ?_)))
        refine sq rfl rfl hn rfl (q_move rfl rfl) ?_
        refine sq rfl rfl hn rfl (q_add rfl rfl rfl (r := ((i + 1 : Nat) : Int)) (i64w (by omega) (by omega))) ?_
        refine sq rfl rfl hn rfl (q_assign rfl rfl) ?_
        refine run_nil ?_
        exact aend_round_on ⟨i + 1, by omega⟩ ⟨.inl rfl, holdT_anys _⟩ trivial (by simp only; omega) (by repeat (first | exact kr _ | refine kc rfl ?_)) (by repeat (first | exact kr _ | refine kc rfl ?_))
      ·
       refine awp_exit (aend_then_exit (aend_then_exit (aend_block_exit (aend_then (awp_seq (awp_seq (awp_region ?_)))))))
       refine sq rfl rfl hn rfl (q_move rfl rfl) ?_
       refine stepW (s_call [] (fun _ => In_ok _ _ _) rfl (guard_none rfl) rfl (nb hn rfl) (fun _ => trivial) rfl rfl (.refl _)) fun _ => ?_
       refine sq rfl rfl hn rfl (q_not rfl rfl) ?_
       refine run_nil (aend_then ?_)
       refine awp_cond rfl (fun hb7 => ?_) (fun hb7 => ?_)
       ·
        refine awp_seq (awp_region ?_)
        refine stepW (s_call [] (fun _ => awake_ok) rfl (guard_none rfl) rfl (nb hn rfl) (fun _ => trivial) rfl rfl (.refl _)) fun _ => ?_
        refine sq rfl rfl hn rfl (q_assign rfl rfl) ?_
        refine run_nil (aend_then (awp_ret (aend_then_ret ?_)))
        exact ret_1 (.inl rfl) hl rfl (.tmp rfl)
       ·
        have hw7 : withinB (byd hi n) 1 799 = true := by simpa using hb7
        have hw8 := within_iff.1 hw7
        obtain ⟨y, hy⟩ : ∃ y : Nat, byd hi n = y := ⟨(byd hi n).toNat, by omega⟩
        have h11 := E.by9 y (by omega) (by omega) hy
        have hY5 := pd_len (f := (((wh % (soldL b ws).length) : Nat) : Int)) (x := y) v (show (soldL b ws).length ≤ 8 by omega) hso.ok (.inr (by omega))
        refine awp_skip (aend_then (awp_seq ?_))
        refine d_start (W := fun b => b ≠ b4) fmo ?_
        refine d1q (i := 0) rfl (by kernel_rfl) (fun _ _ _ _ h => h) rfl rfl hn rfl (q_loadAd rfl rfl (id := 4) rfl Tryz.underlying24 rfl sz24 rfl rfl (seesA (by simp))) ?_
        refine d1q (i := 2) rfl (by kernel_rfl) (fun _ _ _ _ h => h) rfl rfl hn rfl (q_loadAd rfl rfl (id := 4) rfl Tryz.underlying24 rfl sz24 rfl rfl (seesA (by simp))) ?_
        refine d1q (i := 3) rfl (by kernel_rfl) (fun _ _ _ _ h => h) rfl rfl hn rfl (q_move rfl rfl) ?_
        refine d1q (i := 4) rfl (by kernel_rfl) (fun _ _ _ _ h => h) rfl rfl hn rfl (q_move rfl rfl) ?_
        refine d1q (i := 5) rfl (by kernel_rfl) (fun _ _ _ _ h => h) rfl rfl hn rfl (q_move rfl rfl) ?_
        refine d1_of_d2 ?_
        refine d2_one (i := 1) (by kernel_rfl) rfl (s_call [] (fun _ => Board_ok b (by omega)) rfl (guard_none rfl) rfl (nb hn rfl) (fun _ => trivial) rfl rfl (.refl _)) fun _ => ?_
        refine d2_of_d1 (d1_of_d2 ?_)
        refine d2_one (i := 6) (by kernel_rfl) rfl (s_call [] (fun _ => (by have h := printedS_ok b (soldL b ws) (((wh % (soldL b ws).length) : Nat) : Int) y v (by omega) hso.ok (.inr (by omega)); rw [← hy] at h; exact h)) rfl (guard_none rfl) rfl (nb hn rfl) (fun _ => trivial) rfl rfl (.refl _)) fun _ => ?_
        refine d2_of_d1 (d1_of_d2 ?_)
        refine d2_one (i := 7) (by kernel_rfl) rfl (s_call [] (fun _ => (by have h := Prices_ok b (pdS b (soldL b ws) (((wh % (soldL b ws).length) : Nat) : Int) y) hN (by omega); rw [h11] at h; exact h)) rfl (guard_none rfl) rfl (nb hn rfl) (fun _ => trivial) rfl rfl (.refl _)) fun _ => ?_
        refine d2_of_d1 ?_
        refine d1q (i := 8) rfl (by kernel_rfl) (fun _ _ _ _ h => h) rfl rfl hn rfl (q_move rfl rfl) ?_
        refine d1q (i := 9) rfl (by kernel_rfl) (fun _ _ _ _ h => h) rfl rfl hn rfl (q_extractd rfl rfl rfl) ?_
        refine d1q (i := 10) rfl (by kernel_rfl) (fun _ _ _ _ h => h) rfl rfl hn rfl (q_extractd rfl rfl rfl) ?_
        refine d1q (i := 11) rfl (by kernel_rfl) (fun _ _ _ _ h => h) rfl rfl hn rfl (q_assign rfl rfl) ?_
        refine d1q (i := 12) rfl (by kernel_rfl) (fun _ _ _ _ h => h) rfl rfl hn rfl (q_assign rfl rfl) ?_
        refine d1_of_d2 ?_
        refine d2_done (by kernel_rfl) ?_
        refine aend_then (awp_seq (awp_region ?_))
        refine sq rfl rfl hn rfl (q_move rfl rfl) ?_
        refine sq rfl rfl hn rfl (q_eql rfl rfl rfl) ?_
        refine sq rfl rfl hn rfl (q_move rfl rfl) ?_
        refine stepW (s_call [] (fun hc => awake_ok) rfl (guard_some rfl rfl rfl) rfl (nb hn rfl) (fun hc => trivial) rfl rfl (.refl _)) fun _ => ?_
        refine sq rfl rfl hn rfl (q_and rfl rfl rfl (by intro hB; first | (rw [hB]; rfl) | (rw [hB, hc]; rfl) | simp_all)) ?_
        refine sq rfl rfl hn rfl (q_assign rfl rfl) ?_
        refine run_nil (aend_then (awp_ret ?_))
        exact ret_1 (.inl rfl) hl rfl (.tmp rfl)
end Go.Proofs.YtplpcamcnppibaaGreatDoor
