/-
  The law ShortMore returns true for every input, and leaves its arguments as they were: the given statement, whole. No condition.
-/
import Derived.Test.YtaokpncjemkhcaaGreatShortMoreN
namespace Go.Proofs.YtaokpncjemkhcaaGreat
open Go.RowKit
set_option maxRecDepth 20000
set_option linter.all false
theorem ivec_cons {v : Value} {l : List Int} (hV : VecV v 1 (intsT l)) (h : 0 < l.length) : ∃ b cap, v = .slice (some ⟨b, 0, none⟩) l.length cap ∧ l.length ≤ cap ∧ cap ≤ maxLen := by
  rcases hV with ⟨_, h1⟩ | ⟨b, n, cap, rfl, h1, h2, h3⟩
  · rw [List.map_eq_nil_iff] at h1; subst h1; simp at h
  · rw [List.length_map, Nat.mul_one] at h3; subst h3; exact ⟨b, cap, rfl, h1, h2⟩
theorem intsT_setR {l : List Int} {r : List TV} {i : Nat} {x : Int} (h : i < l.length) : (intsT l ++ r).set (0 + i * 1) (.d (.int .i64 x)) = intsT (l.set i x) ++ r := by
  rw [Nat.zero_add, Nat.mul_one, List.set_append_left _ _ (by simpa using h)]
  unfold intsT; rw [List.map_set]
theorem intsT_getR {l : List Int} {r : List TV} {i : Nat} (h : i < l.length) : (intsT l ++ r)[0 + i * 1]? = some (.d (.int .i64 (l.getD i 0))) := by
  rw [List.getElem?_append_left (by simpa using h)]; exact zDW h
theorem zAz (l : List Int) : intsT l = (l.map intE).flatten.map .d := by rw [zBP, List.append_nil]
abbrev lendL (l : Ldg) (ls : List Bool) : Ldg := ⟨l.reg, l.day, ls, l.dues⟩
theorem lend_lok {l : Ldg} {ls : List Bool} (L : Lok l) (h : ls.length = l.lends.length) : Lok (lendL l ls) := ⟨L.v, L.g0, L.d0, by show (ls.length : Int) = _; rw [h]; exact L.ln, L.dl, L.dq⟩
theorem num0 {l : Ldg} {N : Nat} {h : List Int} (H : Hok l N h) : Num0 l.dues := fun q hq => by have := H.hq6 q hq; omega
theorem more_hand {l : Ldg} {h h2 : List Int} (H : Hok l (houN l) h) (H2 : Hok l (houN l) h2) (h1 : ∀ i, h.getD i 0 ≤ h2.getD i 0) : boughtR l h2 ≤ boughtR l h := by
  obtain ⟨_, _, _, e⟩ := yb H
  obtain ⟨_, _, _, e2⟩ := yb H2
  exact zDG (num0 H) (fun i _ => h1 i) (fun _ _ e => e) e e2
theorem more_lend {l : Ldg} {ls : List Bool} {h : List Int} (H : Hok l (houN l) h) (H2 : Hok (lendL l ls) (houN l) h) (h1 : ∀ i, l.lends.getD i false = true → ls.getD i false = true) : boughtR (lendL l ls) h ≤ boughtR l h := by
  obtain ⟨_, _, _, e⟩ := yb H
  obtain ⟨_, _, _, e2⟩ := yb H2
  exact zDG (N := houN l) (hand := h) (hand' := h) (num0 H) (fun i _ => Int.le_refl _) (fun i _ => h1 i) e e2
theorem more_due {l : Ldg} {q : Due8} {h : List Int} (H : Hok l (houN l) h) (H2 : Hok (duesL l (l.dues ++ [q])) (houN l) h) : boughtR (duesL l (l.dues ++ [q])) h ≤ boughtR l h + q.num := by
  obtain ⟨_, _, _, e⟩ := yb H
  obtain ⟨_, _, _, e2⟩ := yb H2
  exact best_due (num0 H2) e e2
def h2R (h : List Int) (k : Nat) : List Int := h.set k (min 4 (h.getD k 0 + 1))
theorem h2R_ge {h : List Int} {k : Nat} (hb : ∀ x ∈ h, 0 ≤ x ∧ x ≤ 4) (i : Nat) : h.getD i 0 ≤ (h2R h k).getD i 0 := by
  unfold h2R
  rw [List.getD_eq_getElem?_getD, List.getD_eq_getElem?_getD, List.getElem?_set]
  by_cases e : k = i
  · subst e
    rw [if_pos rfl]
    by_cases hk : k < h.length
    · rw [if_pos hk]
      have := hb h[k] (List.getElem_mem hk)
      rw [List.getD_eq_getElem?_getD, List.getElem?_eq_getElem hk]; simp only [Option.getD_some]; omega
    · rw [if_neg hk, List.getElem?_eq_none (by omega)]; simp
  · rw [if_neg e]; exact Int.le_refl _
theorem h2R_hs {l : Ldg} {h : List Int} {k : Nat} (H : HsOK l h) (hk : k < h.length) : HsOK l (h2R h k) := by
  have hk2 := H.2 h[k] (List.getElem_mem hk)
  refine ⟨by unfold h2R; rw [List.length_set]; exact H.1, zCj H.2 ?_⟩
  rw [List.getD_eq_getElem?_getD, List.getElem?_eq_getElem hk]; simp only [Option.getD_some]; omega
theorem getD_bd {h : List Int} (H : ∀ x ∈ h, 0 ≤ x ∧ x ≤ 4) (k : Nat) : 0 ≤ h.getD k 0 ∧ h.getD k 0 ≤ 4 := by
  rw [List.getD_eq_getElem?_getD]
  cases hh : h[k]? with
  | none => simp
  | some x => exact H x (List.mem_of_getElem? hh)
theorem set_ge {ls : List Bool} {k i : Nat} (h : ls.getD i false = true) : (ls.set k true).getD i false = true := by
  rw [List.getD_eq_getElem?_getD] at h ⊢
  rw [List.getElem?_set]
  by_cases e : k = i
  · subst e
    rw [if_pos rfl]
    by_cases hk : k < ls.length
    · rw [if_pos hk]; rfl
    · rw [List.getElem?_eq_none (by omega)] at h; cases h
  · rw [if_neg e]; exact h
theorem list40_vec (l : List Int) (h5 : l.length ≤ 1000000) : EffAt Tryz.prog 40 [.d (ints l)] [] (X := {v : Value // VecV v 1 (intsT l)}) (fun v => .val v.1) (fun v => [(1081, vecRes 3 v.1 1 (intsT l))]) := by
 refine EffAt.of_awp Tryz.func40 rfl (by kernel_rfl) rfl fun Γ hn => ?_
 refine zC (zB ?_)
 refine sq rfl rfl hn rfl (zF rfl rfl) ?_
 refine zE (zA (zC (zB ?_)))
 refine sq rfl rfl hn rfl (zG rfl rfl) ?_
 refine kL (zFB 1081) ?_
 refine stepW (s_appendNV (id := 1081) rfl rfl rfl (nb hn rfl) elt22 zr3 rfl rfl rfl rfl (by simp [chunk]; omega) (by simp [chunk]; omega)) fun ⟨v4, hV4⟩ => ?_
 refine sq rfl rfl hn rfl (zF rfl rfl) ?_
 refine zE (zA (zP ?_))
 exact ret_E (.inl rfl) ⟨v4, by rw [zAz]; exact hV4⟩ (yF rfl (.tmp rfl)) ⟨(congrArg (fun z => some (vecRes 3 v4 1 z)) (zAz l).symm), trivial⟩
theorem ShortMore_ok (l : Ldg) (ws : List Nat) (hw5 : ∀ x ∈ ws, x < 65536) (u : Nat) (hu5 : u < 256) (q : Due8) : PureAt Tryz.prog 7 [ldgD l, wordsD ws, .int .u8 (u : Nat), .agg (dueE q)] (.bool true) := by
 refine PureAt.of_awp Tryz.func7 rfl (by kernel_rfl) (Nat.le_of_ble_eq_true rfl) fun Γ hn hl => ?_
 refine zC (zB ?_)
 refine stepW (zq 4 rfl rfl rfl (nb hn rfl) rfl rfl) fun b4 => ?_
 refine stepW (zq 7 rfl rfl rfl (nb hn rfl) rfl rfl) fun b7 => ?_
 refine sq rfl rfl hn rfl (zF rfl rfl) ?_
 refine zE (zA (zC (zC ?_)))
 refine zw (zm (t := 4) 4 rfl (nb hn rfl) rfl rfl trivial) ?_
 refine zw (zm (t := 7) 7 rfl (nb hn rfl) rfl rfl trivial) ?_
 refine zB ?_
 refine sq rfl rfl hn rfl (ze rfl rfl Tryz.underlying33 rfl sz33 rfl rfl seesF0) ?_
 refine stepW (s_call [] (fun _ => ready8_ok l) rfl (zI rfl) rfl (nb hn rfl) (fun _ => trivial) rfl rfl (.refl _)) fun _ => ?_
 refine sq rfl rfl hn rfl (yD rfl rfl) ?_
 refine zE (zA ?_)
 refine zQ rfl (fun hb0 => ?_) (fun hb0 => ?_)
 ·
  refine zC (zB ?_)
  refine stepW (s_call [] (fun _ => zCi) rfl (zI rfl) rfl (nb hn rfl) (fun _ => trivial) rfl rfl (.refl _)) fun _ => ?_
  refine sq rfl rfl hn rfl (zF rfl rfl) ?_
  refine zE (zA (zP (zL ?_)))
  refine zi (zl (.inl rfl) hl rfl (.tmp rfl)) ?_
  rfl
 ·
  obtain ⟨hth, hc⟩ := ready_in hb0
  have L := kz hc
  obtain ⟨z1, z2, z3, z4, z5⟩ := thin_sz hth
  have hho := handed_hs L ws
  have hhb := zBX L hho
  have H := L.hok hho.2
  have hbx := zAT hc hhb
  obtain ⟨b1, b2, b3, b4⟩ := yb H
  have hbd := zDk H.hq6 b1
  have hbl := zBL b1
  have hl6 := H.hl6
  have hbo := bought_bd H
  have b3 : boughtR l (handedR (houN l) ws) = owedI l.dues - sumI (bestR l (houN l) (handedR (houN l) ws) (-1)).1 := b3
  have hhl := hho.1
  have hN := L.hN
  have hpb := prove_best hc hhb H
  have hpl : ∀ d, proveB l (handedR (houN l) ws) d (boughtR l (handedR (houN l) ws) - 1) = false := fun d => prove_less H (by omega)
  have hkN : u % houN l < houN l := Nat.mod_lt _ (by omega)
  have hgb := getD_bd hho.2 (u % houN l)
  have hh2 := h2R_hs (k := u % houN l) hho (by rw [hhl]; exact hkN)
  have hb2 := zAT hc (zBX L hh2)
  have hn2 := more_hand H (L.hok hh2.2) (h2R_ge (k := u % houN l) hho.2)
  have hln : l.lends.length = houN l := by have := L.ln; omega
  have L3 : Lok (lendL l (l.lends.set (u % houN l) true)) := lend_lok L (List.length_set ..)
  have hb3 := zAT (check_of L3) (zBX L3 (h := handedR (houN l) ws) hho)
  have hn3 := more_lend (ls := l.lends.set (u % houN l) true) H (L3.hok hho.2) (fun i => set_ge)
  refine zR (zA (zC (zB ?_)))
  refine sq rfl rfl hn rfl (ze rfl rfl Tryz.underlying33 rfl sz33 rfl rfl seesF0) ?_
  refine sq rfl rfl hn rfl (zG rfl rfl) ?_
  refine stepW (s_call [] (fun _ => handed_ok l (houN l) hN.1 (by omega) ws hw5) rfl (zI rfl) rfl (nb hn rfl) (fun _ => trivial) rfl rfl (.refl _)) fun _ => ?_
  refine sq rfl rfl hn rfl (zF rfl rfl) ?_
  refine zE (zA (zC (zB ?_)))
  refine sq rfl rfl hn rfl (zG rfl rfl) ?_
  refine sq rfl rfl hn rfl (zFO rfl rfl Tryz.underlying5 Tryz.underlying3 (r := ((u : Nat) : Int)) (i64w (by omega) rfl)) ?_
  refine sq rfl rfl hn rfl (zO rfl rfl Tryz.underlying33 rfl sz26 rfl) ?_
  refine sq rfl rfl hn rfl (zO rfl rfl Tryz.underlying26 rfl sz3 rfl) ?_
  refine sq rfl rfl hn rfl (zT rfl rfl Tryz.underlying3 rfl seesF0) ?_
  refine sq rfl rfl hn rfl (zFJ rfl rfl rfl (r := ((u % houN l : Nat) : Int)) (by omega) (by rw [hN.1]; rfl)) ?_
  refine sq rfl rfl hn rfl (zF rfl rfl) ?_
  refine zE (zA (zC (zB ?_)))
  refine sq rfl rfl hn rfl (zG rfl rfl) ?_
  refine stepW (s_callE (list40_vec (handedR (houN l) ws) (by omega)) rfl rfl rfl (nb hn rfl) (.d rfl) rfl (.refl _) trivial (fun _ => rfl) (fun _ _ => trivial)) fun ⟨vc, hVc⟩ => ?_
  obtain ⟨bc, cap, rfl, hcap, hcm⟩ := ivec_cons hVc (by rw [hhl]; omega)
  refine sq rfl rfl hn rfl (zF rfl rfl) ?_
  refine zE (zA (zC (zB ?_)))
  refine sq rfl rfl hn rfl (zG rfl rfl) ?_
  refine sq rfl rfl hn rfl (zG rfl rfl) ?_
  refine sq rfl rfl hn rfl (zG rfl rfl) ?_
  refine sq rfl rfl hn rfl (zG rfl rfl) ?_
  refine sq rfl rfl hn rfl (q_indexV (i := u % houN l) rfl rfl rfl Tryz.underlying22 sz3 rfl (by rw [hhl]; exact hkN)) ?_
  refine sq rfl rfl hn rfl (zN rfl rfl (id := 1081) rfl Tryz.underlying3 rfl (intsT_getR (by rw [hhl]; exact hkN)) sees0) ?_
  refine sq rfl rfl hn rfl (z7 rfl rfl rfl (r := (handedR (houN l) ws).getD (u % houN l) 0 + 1) (i64w (by omega) rfl)) ?_
  refine sq rfl rfl hn rfl (zFW rfl rfl rfl) ?_
  refine sq rfl rfl hn rfl (q_indexV (i := u % houN l) rfl rfl rfl Tryz.underlying22 sz3 rfl (by rw [hhl]; exact hkN)) ?_
  refine stepW (s_store1 rfl rfl rfl rfl rfl rfl (id := 1081) rfl sz3 (by show 0 + (u % houN l) * 1 < _; rw [List.length_append, List.length_map, hhl]; omega) (intsT_setR (by rw [hhl]; exact hkN)) trivial) fun _ => ?_
  refine zE (zA (zC ?_))
  refine zw (g_freezeVK (t := 11) (sz := 1) (n := (handedR (houN l) ws).length) (ds := ((h2R (handedR (houN l) ws) (u % houN l)).map intE).flatten) (es := (h2R (handedR (houN l) ws) (u % houN l)).map intE) 1081 rfl rfl (by rw [← zAz]; rfl) (by rw [zA0 zAF, List.length_map, hh2.1, hhl]) (by have := kV (k := 1) (rows := (h2R (handedR (houN l) ws) (u % houN l)).map intE) zAF; rw [List.length_map, hh2.1] at this; rw [hhl]; exact this) hcap hcm) ?_
  refine yL (e := .normal) (ι := Nat × Nat) (fun b => (12, true, .val (.pointer (some ⟨b.1, 0, none⟩))) :: (13, true, .val (.pointer (some ⟨b.2, 0, none⟩))) :: anys [51, 52]) (fun b => [(12, .box b.1 33 [.d (.int .i64 l.reg.houses), .d (ints l.reg.start), .d (entsD l.reg.entries), .d (sightsD l.reg.sights), .d (.int .i64 l.day), .d (boolsD l.lends), .d (duesD l.dues)]), (13, .box b.2 33 [.d (.int .i64 l.reg.houses), .d (ints l.reg.start), .d (entsD l.reg.entries), .d (sightsD l.reg.sights), .d (.int .i64 l.day), .d (boolsD l.lends), .d (duesD l.dues)])]) (fun hJ1 => ?_) ?_
  ·
   refine yB (W := fun b => True) fmo ?_
   refine d1q (i := 0) rfl (by kernel_rfl) (fun _ _ _ _ h => h) rfl rfl hn rfl (ze rfl rfl Tryz.underlying33 rfl sz33 rfl rfl seesFA) ?_
   refine d1q (i := 1) rfl (by kernel_rfl) (fun _ _ _ _ h => h) rfl rfl hn rfl (ze rfl rfl Tryz.underlying33 rfl sz33 rfl rfl seesFA) ?_
   refine zJ ?_
   refine yX 2 [3] (by kernel_rfl) ⟨?_, ?_, trivial⟩
   ·
    refine br rfl (zh 12 rfl rfl rfl (nb hn rfl) zr33 rfl rfl) fun b12 => ?_
    refine d2_of_d1 (zJ ?_)
    refine zf (i := 3) (by kernel_rfl) rfl (zh 13 rfl rfl rfl (nb hn rfl) zr33 rfl rfl) fun b13 => ?_
    refine d2_of_d1 (zJ ?_)
    refine zf (i := 4) (by kernel_rfl) rfl (zn rfl rfl rfl rfl rfl rfl (id := 12) rfl sz33 rfl (Nat.le_of_ble_eq_true rfl) rfl trivial) fun _ => ?_
    refine d2_of_d1 (zJ ?_)
    refine zf (i := 5) (by kernel_rfl) rfl (zn rfl rfl rfl rfl rfl rfl (id := 13) rfl sz33 rfl (Nat.le_of_ble_eq_true rfl) rfl trivial) fun _ => ?_
    refine d2_of_d1 (zJ ?_)
    refine zo (by kernel_rfl) ?_
    exact aend_join_on hJ1 (b12, b13) ⟨.inl rfl, .inl rfl, zK _⟩ ⟨.inl rfl, .inl rfl, trivial⟩ (by repeat (first | exact kr _ | refine kc rfl ?_)) (by repeat (first | exact kr _ | refine kc rfl ?_))
   ·
    refine br rfl (zh 13 rfl rfl rfl (nb hn rfl) zr33 rfl rfl) fun b13 => ?_
    refine d2_of_d1 (zJ ?_)
    refine zf (i := 2) (by kernel_rfl) rfl (zh 12 rfl rfl rfl (nb hn rfl) zr33 rfl rfl) fun b12 => ?_
    refine d2_of_d1 (zJ ?_)
    refine zf (i := 4) (by kernel_rfl) rfl (zn rfl rfl rfl rfl rfl rfl (id := 12) rfl sz33 rfl (Nat.le_of_ble_eq_true rfl) rfl trivial) fun _ => ?_
    refine d2_of_d1 (zJ ?_)
    refine zf (i := 5) (by kernel_rfl) rfl (zn rfl rfl rfl rfl rfl rfl (id := 13) rfl sz33 rfl (Nat.le_of_ble_eq_true rfl) rfl trivial) fun _ => ?_
    refine d2_of_d1 (zJ ?_)
    refine zo (by kernel_rfl) ?_
    exact aend_join_on hJ1 (b12, b13) ⟨.inl rfl, .inl rfl, zK _⟩ ⟨.inl rfl, .inl rfl, trivial⟩ (by repeat (first | exact kr _ | refine kc rfl ?_)) (by repeat (first | exact kr _ | refine kc rfl ?_))
  ·
   rintro ⟨b12, b13⟩
   dsimp only
   refine zA (zC (zB ?_))
   refine stepW (zCf 1082 rfl rfl rfl (nb hn rfl) Tryz.underlying30 sz4 zr4 rfl rfl (show _ = [] from by kernel_rfl) (by kernel_rfl) rfl rfl) fun b53 => ?_
   refine sq rfl rfl hn rfl (zO rfl rfl Tryz.underlying33 rfl sz30 rfl) ?_
   refine sq rfl rfl hn rfl (zT rfl rfl Tryz.underlying30 rfl seesF0) ?_
   refine stepW (zA7 (id := 1082) rfl rfl rfl (nb hn rfl) elt30 zr4 rfl (show VecV (.slice (some ⟨b53, 0, none⟩) 0 0) 1 [] from .inr ⟨b53, 0, 0, rfl, Nat.le_refl _, by decide, rfl⟩) rfl rfl rfl (by simp [chunk]; omega) (by simp [chunk]; omega) (fun _ _ => trivial)) fun ⟨v56, hV56⟩ => ?_
   obtain ⟨b56, cap2, rfl, hcap2, hcm2⟩ := zDA (l := l.lends) (by rw [yv]; exact hV56) (by omega)
   refine sq rfl rfl hn rfl (zH rfl rfl Tryz.underlying33 rfl sz30) ?_
   refine stepW (s_store1 rfl rfl rfl rfl rfl rfl (id := 12) rfl sz30 (Nat.le_of_ble_eq_true rfl) rfl trivial) fun _ => ?_
   refine zE (zA (zC ?_))
   refine zw (gh_req (id := 1082) rfl (congrArg (fun z => Res.box b56 4 (z ++ List.replicate ((cap2 - l.lends.length) * 1) TV.any)) (show [] ++ _ = _ from (yv l.lends).symm))) ?_
   refine zB ?_
   refine sq rfl rfl hn rfl (zH rfl rfl Tryz.underlying33 rfl sz30) ?_
   refine sq rfl rfl hn rfl (zN rfl rfl (id := 12) rfl Tryz.underlying30 rfl rfl sees0) ?_
   refine sq rfl rfl hn rfl (zG rfl rfl) ?_
   refine sq rfl rfl hn rfl (q_indexV (i := u % houN l) rfl rfl rfl Tryz.underlying30 sz4 rfl (by omega)) ?_
   refine stepW (s_store1 rfl rfl rfl rfl rfl rfl (id := 1082) rfl sz4 (by show 0 + (u % houN l) * 1 < _; rw [List.length_append, List.length_map]; omega) (zCg (by omega)) trivial) fun _ => ?_
   refine zE (zA (zC ?_))
   refine yL (e := .normal) (ι := Unit) (fun x => anys [62, 63, 64, 65, 66, 67, 68, 69]) (fun x => (13, .box b13 33 [.d (.int .i64 l.reg.houses), .d (ints l.reg.start), .d (entsD l.reg.entries), .d (sightsD l.reg.sights), .d (.int .i64 l.day), .d (boolsD l.lends), .d (duesD (l.dues ++ [q]))]) :: gones [62]) (fun hJ2 => ?_) ?_
   ·
    refine yB (W := fun b => True) fmo ?_
    refine d1q (i := 1) rfl (by kernel_rfl) (fun _ _ _ _ h => h) rfl rfl hn rfl (zO rfl rfl Tryz.underlying33 rfl sz31 rfl) ?_
    refine d1q (i := 2) rfl (by kernel_rfl) (fun _ _ _ _ h => h) rfl rfl hn rfl (zT rfl rfl Tryz.underlying31 rfl seesFA) ?_
    refine d1q (i := 4) rfl (by kernel_rfl) (fun _ _ _ _ h => h) rfl rfl hn rfl (ze rfl rfl Tryz.underlying35 rfl sz35 rfl rfl seesFA) ?_
    refine zJ ?_
    refine yX 0 [5] (by kernel_rfl) ⟨?_, ?_, trivial⟩
    ·
     refine br rfl (s_buildRow 62 rfl rfl rfl (nb hn rfl) Tryz.underlying31 sz35 zr35 rfl rfl rfl (show _ = [] from by kernel_rfl) (by kernel_rfl) rfl rfl (show allD _ = some [] from by kernel_rfl) rfl rfl) fun v62 => ?_
     refine d2_of_d1 (zJ ?_)
     refine yX 3 [5] (by kernel_rfl) ⟨?_, ?_, trivial⟩
     ·
      refine br rfl (s_append (id := 62) rfl rfl rfl (nb hn rfl) elt31 trivial rfl rfl rfl (by simp [chunk]; omega) (by simp [chunk]; omega) (fun b hb => trivial)) fun v65 => ?_
      refine d2_of_d1 (zJ ?_)
      refine zf (i := 5) (by kernel_rfl) rfl (zZ rfl rfl rfl (nb hn rfl) Tryz.underlying31 sz35 zr35 rfl rfl rfl (show _ = [.d (.int .i64 0), .d (.int .i64 0), .d (.int .i64 0)] from by kernel_rfl) (by kernel_rfl) rfl (k8 (by kernel_rfl) rfl) (ku _) (zBh rfl) (zAI rfl)) fun _ => ?_
      refine d2_of_d1 (zJ ?_)
      refine zf (i := 6) (by kernel_rfl) rfl (s_append (id := 62) rfl rfl rfl (nb hn rfl) elt31 trivial rfl rfl rfl (by simp [chunk]; omega) (by simp [chunk]; omega) (fun b hb => trivial)) fun v68 => ?_
      refine d2_of_d1 ?_
      refine d1q (i := 7) rfl (by kernel_rfl) (fun _ _ _ _ h => h) rfl rfl hn rfl (zH rfl rfl Tryz.underlying33 rfl sz31) ?_
      refine zJ ?_
      refine kh (g_row (t := 68) (id := 62) rfl rfl) ?_
      refine zf (i := 8) (by kernel_rfl) rfl (s_store1 rfl rfl rfl rfl rfl rfl (id := 13) rfl sz31 (Nat.le_of_ble_eq_true rfl) rfl trivial) fun _ => ?_
      refine d2_of_d1 (zJ ?_)
      refine zo (by kernel_rfl) ?_
      exact aend_join_on hJ2 () (zK _) ⟨.inl (congrArg (fun z => some (Res.box b13 33 [.d (.int .i64 l.reg.houses), .d (ints l.reg.start), .d (entsD l.reg.entries), .d (sightsD l.reg.sights), .d (.int .i64 l.day), .d (boolsD l.lends), .d (.slice 3 z)])) (show _ = (l.dues ++ [q]).map dueE by simp [chunk])), zS _⟩ (by repeat (first | exact kr _ | refine kc rfl ?_)) (by repeat (first | exact kr _ | refine kc rfl ?_))
     ·
      refine br rfl (zZ rfl rfl rfl (nb hn rfl) Tryz.underlying31 sz35 zr35 rfl rfl rfl (show _ = [.d (.int .i64 0), .d (.int .i64 0), .d (.int .i64 0)] from by kernel_rfl) (by kernel_rfl) rfl (k8 (by kernel_rfl) rfl) (ku _) (zBh rfl) (zAI rfl)) fun _ => ?_
      refine d2_of_d1 (zJ ?_)
      refine zf (i := 3) (by kernel_rfl) rfl (s_append (id := 62) rfl rfl rfl (nb hn rfl) elt31 trivial rfl rfl rfl (by simp [chunk]; omega) (by simp [chunk]; omega) (fun b hb => trivial)) fun v65 => ?_
      refine d2_of_d1 (zJ ?_)
      refine zf (i := 6) (by kernel_rfl) rfl (s_append (id := 62) rfl rfl rfl (nb hn rfl) elt31 trivial rfl rfl rfl (by simp [chunk]; omega) (by simp [chunk]; omega) (fun b hb => trivial)) fun v68 => ?_
      refine d2_of_d1 ?_
      refine d1q (i := 7) rfl (by kernel_rfl) (fun _ _ _ _ h => h) rfl rfl hn rfl (zH rfl rfl Tryz.underlying33 rfl sz31) ?_
      refine zJ ?_
      refine kh (g_row (t := 68) (id := 62) rfl rfl) ?_
      refine zf (i := 8) (by kernel_rfl) rfl (s_store1 rfl rfl rfl rfl rfl rfl (id := 13) rfl sz31 (Nat.le_of_ble_eq_true rfl) rfl trivial) fun _ => ?_
      refine d2_of_d1 (zJ ?_)
      refine zo (by kernel_rfl) ?_
      exact aend_join_on hJ2 () (zK _) ⟨.inl (congrArg (fun z => some (Res.box b13 33 [.d (.int .i64 l.reg.houses), .d (ints l.reg.start), .d (entsD l.reg.entries), .d (sightsD l.reg.sights), .d (.int .i64 l.day), .d (boolsD l.lends), .d (.slice 3 z)])) (show _ = (l.dues ++ [q]).map dueE by simp [chunk])), zS _⟩ (by repeat (first | exact kr _ | refine kc rfl ?_)) (by repeat (first | exact kr _ | refine kc rfl ?_))
    ·
     refine br rfl (zZ rfl rfl rfl (nb hn rfl) Tryz.underlying31 sz35 zr35 rfl rfl rfl (show _ = [.d (.int .i64 0), .d (.int .i64 0), .d (.int .i64 0)] from by kernel_rfl) (by kernel_rfl) rfl (k8 (by kernel_rfl) rfl) (ku _) (zBh rfl) (zAI rfl)) fun _ => ?_
     refine d2_of_d1 (zJ ?_)
     refine zf (i := 0) (by kernel_rfl) rfl (s_buildRow 62 rfl rfl rfl (nb hn rfl) Tryz.underlying31 sz35 zr35 rfl rfl rfl (show _ = [] from by kernel_rfl) (by kernel_rfl) rfl rfl (show allD _ = some [] from by kernel_rfl) rfl rfl) fun v62 => ?_
     refine d2_of_d1 (zJ ?_)
     refine zf (i := 3) (by kernel_rfl) rfl (s_append (id := 62) rfl rfl rfl (nb hn rfl) elt31 trivial rfl rfl rfl (by simp [chunk]; omega) (by simp [chunk]; omega) (fun b hb => trivial)) fun v65 => ?_
     refine d2_of_d1 (zJ ?_)
     refine zf (i := 6) (by kernel_rfl) rfl (s_append (id := 62) rfl rfl rfl (nb hn rfl) elt31 trivial rfl rfl rfl (by simp [chunk]; omega) (by simp [chunk]; omega) (fun b hb => trivial)) fun v68 => ?_
     refine d2_of_d1 ?_
     refine d1q (i := 7) rfl (by kernel_rfl) (fun _ _ _ _ h => h) rfl rfl hn rfl (zH rfl rfl Tryz.underlying33 rfl sz31) ?_
     refine zJ ?_
     refine kh (g_row (t := 68) (id := 62) rfl rfl) ?_
     refine zf (i := 8) (by kernel_rfl) rfl (s_store1 rfl rfl rfl rfl rfl rfl (id := 13) rfl sz31 (Nat.le_of_ble_eq_true rfl) rfl trivial) fun _ => ?_
     refine d2_of_d1 (zJ ?_)
     refine zo (by kernel_rfl) ?_
     exact aend_join_on hJ2 () (zK _) ⟨.inl (congrArg (fun z => some (Res.box b13 33 [.d (.int .i64 l.reg.houses), .d (ints l.reg.start), .d (entsD l.reg.entries), .d (sightsD l.reg.sights), .d (.int .i64 l.day), .d (boolsD l.lends), .d (.slice 3 z)])) (show _ = (l.dues ++ [q]).map dueE by simp [chunk])), zS _⟩ (by repeat (first | exact kr _ | refine kc rfl ?_)) (by repeat (first | exact kr _ | refine kc rfl ?_))
   ·
    rintro _
    refine zA (zC (zB ?_))
    refine sq rfl rfl hn rfl (ze rfl rfl Tryz.underlying33 rfl sz33 rfl rfl seesF0) ?_
    refine stepW (s_call [] (fun _ => zA1 l (by omega) (by omega) (by omega) (by omega) (by omega)) rfl (zI rfl) rfl (nb hn rfl) (fun _ => trivial) rfl rfl (.refl _)) fun _ => ?_
    refine sq rfl rfl hn rfl (zG rfl rfl) ?_
    refine stepW (s_call [] (fun _ => zB9 (handedR (houN l) ws) (by omega)) rfl (zI rfl) rfl (nb hn rfl) (fun _ => trivial) rfl rfl (.refl _)) fun _ => ?_
    refine stepW (s_call [] (fun _ => (by have h6 := zBC l (handedR (houN l) ws); rw [hbx] at h6; exact h6)) rfl (zI rfl) rfl (nb hn rfl) (fun _ => trivial) rfl rfl (.refl _)) fun _ => ?_
    refine sq rfl rfl hn rfl (zG rfl rfl) ?_
    refine sq rfl rfl hn rfl (zW rfl rfl rfl) ?_
    refine sq rfl rfl hn rfl (zW rfl rfl rfl) ?_
    refine sq rfl rfl hn rfl (zW rfl rfl rfl) ?_
    refine sq rfl rfl hn rfl (zF rfl rfl) ?_
    refine sq rfl rfl hn rfl (zF rfl rfl) ?_
    refine sq rfl rfl hn rfl (zF rfl rfl) ?_
    refine zE (zA (zC (zB ?_)))
    refine sq rfl rfl hn rfl (ze rfl rfl Tryz.underlying33 rfl sz33 rfl rfl seesF0) ?_
    refine stepW (s_call [] (fun _ => zA1 l (by omega) (by omega) (by omega) (by omega) (by omega)) rfl (zI rfl) rfl (nb hn rfl) (fun _ => trivial) rfl rfl (.refl _)) fun _ => ?_
    refine sq rfl rfl hn rfl (zG rfl rfl) ?_
    refine stepW (s_call [] (fun _ => (by have h6 := zBC l (h2R (handedR (houN l) ws) (u % houN l)); rw [hb2] at h6; exact h6)) rfl (zI rfl) rfl (nb hn rfl) (fun _ => trivial) rfl rfl (.refl _)) fun _ => ?_
    refine sq rfl rfl hn rfl (zG rfl rfl) ?_
    refine sq rfl rfl hn rfl (zW rfl rfl rfl) ?_
    refine sq rfl rfl hn rfl (zW rfl rfl rfl) ?_
    refine sq rfl rfl hn rfl (zW rfl rfl rfl) ?_
    refine sq rfl rfl hn rfl (zF rfl rfl) ?_
    refine sq rfl rfl hn rfl (zF rfl rfl) ?_
    refine sq rfl rfl hn rfl (zF rfl rfl) ?_
    refine zE (zA (zC ?_))
    refine zw (gh_veccell (id := 12) (k := 5) (rid := 1082) (es := (l.lends.set (u % houN l) true).map boolE) (ds := ((l.lends.set (u % houN l) true).map boolE).flatten) (n := l.lends.length) (sz := 1) (rest := List.replicate ((cap2 - l.lends.length) * 1) TV.any) rfl rfl (congrArg (fun z => some (Res.box b56 4 (z ++ List.replicate ((cap2 - l.lends.length) * 1) TV.any))) (yv _)) rfl (by rw [zA0 zAN, List.length_map, List.length_set]) (by have := kV (k := 1) (rows := (l.lends.set (u % houN l) true).map boolE) zAN; rw [List.length_map, List.length_set] at this; exact this) hcap2 hcm2) ?_
    refine zw (zm (t := 12) 12 rfl (nb hn rfl) rfl rfl trivial) ?_
    refine zw (zm (t := 13) 13 rfl (nb hn rfl) rfl rfl trivial) ?_
    refine zB ?_
    refine sq rfl rfl hn rfl (ze rfl rfl Tryz.underlying33 rfl sz33 rfl rfl seesF0) ?_
    refine stepW (s_call [] (fun _ => zA1 (lendL l (l.lends.set (u % houN l) true)) (by show l.reg.start.length ≤ _; omega) (by show l.reg.entries.length ≤ _; omega) (by show l.reg.sights.length ≤ _; omega) (by show l.dues.length ≤ _; omega) (by show (l.lends.set _ _).length ≤ _; rw [List.length_set]; omega)) rfl (zI rfl) rfl (nb hn rfl) (fun _ => trivial) rfl rfl (.refl _)) fun _ => ?_
    refine sq rfl rfl hn rfl (zG rfl rfl) ?_
    refine stepW (s_call [] (fun _ => zB9 (handedR (houN l) ws) (by omega)) rfl (zI rfl) rfl (nb hn rfl) (fun _ => trivial) rfl rfl (.refl _)) fun _ => ?_
    refine stepW (s_call [] (fun _ => (by have h6 := zBC (lendL l (l.lends.set (u % houN l) true)) (handedR (houN l) ws); rw [hb3] at h6; exact h6)) rfl (zI rfl) rfl (nb hn rfl) (fun _ => trivial) rfl rfl (.refl _)) fun _ => ?_
    refine sq rfl rfl hn rfl (zG rfl rfl) ?_
    refine sq rfl rfl hn rfl (zW rfl rfl rfl) ?_
    refine sq rfl rfl hn rfl (zW rfl rfl rfl) ?_
    refine sq rfl rfl hn rfl (zW rfl rfl rfl) ?_
    refine sq rfl rfl hn rfl (zF rfl rfl) ?_
    refine sq rfl rfl hn rfl (zF rfl rfl) ?_
    refine sq rfl rfl hn rfl (zF rfl rfl) ?_
    refine zE (zA (zC (zB ?_)))
    refine sq rfl rfl hn rfl (ze rfl rfl Tryz.underlying33 rfl sz33 rfl rfl seesF0) ?_
    refine stepW (s_call [] (fun _ => zA1 (duesL l (l.dues ++ [q])) (by show l.reg.start.length ≤ _; omega) (by show l.reg.entries.length ≤ _; omega) (by show l.reg.sights.length ≤ _; omega) (by show (l.dues ++ [q]).length ≤ _; rw [List.length_append, List.length_singleton]; omega) (by show l.lends.length ≤ _; omega)) rfl (zI rfl) rfl (nb hn rfl) (fun _ => trivial) rfl rfl (.refl _)) fun _ => ?_
    refine sq rfl rfl hn rfl (zG rfl rfl) ?_
    refine stepW (s_call [] (fun _ => zB9 (handedR (houN l) ws) (by omega)) rfl (zI rfl) rfl (nb hn rfl) (fun _ => trivial) rfl rfl (.refl _)) fun _ => ?_
    refine stepW (s_call [] (fun _ => zBC (duesL l (l.dues ++ [q])) (handedR (houN l) ws)) rfl (zI rfl) rfl (nb hn rfl) (fun _ => trivial) rfl rfl (.refl _)) fun _ => ?_
    refine sq rfl rfl hn rfl (zG rfl rfl) ?_
    refine sq rfl rfl hn rfl (zW rfl rfl rfl) ?_
    refine sq rfl rfl hn rfl (zW rfl rfl rfl) ?_
    refine sq rfl rfl hn rfl (zW rfl rfl rfl) ?_
    refine sq rfl rfl hn rfl (zF rfl rfl) ?_
    refine sq rfl rfl hn rfl (zF rfl rfl) ?_
    refine sq rfl rfl hn rfl (zF rfl rfl) ?_
    refine zE (zA (zC (zC (zB ?_))))
    refine sq rfl rfl hn rfl (zG rfl rfl) ?_
    refine sq rfl rfl hn rfl (yW rfl rfl rfl) ?_
    refine sq rfl rfl hn rfl (zG rfl rfl) ?_
    refine stepG [] (zD rfl rfl rfl) rfl (nb hn rfl) (fun hc => trivial) (fun hc => zG rfl rfl) ?_
    refine stepG [(108, _)] (zD rfl rfl rfl) rfl (nb hn rfl) (fun hc => ⟨⟨_, rfl, hc⟩, trivial⟩) (fun hc => yW rfl rfl rfl) ?_
    refine sq rfl rfl hn rfl (q_or rfl rfl rfl (by intro hB; first | (rw [hB]; rfl) | (rw [hB, hc]; rfl) | simp_all)) ?_
    refine sq rfl rfl hn rfl (zG rfl rfl) ?_
    refine stepG [] (zD rfl rfl rfl) rfl (nb hn rfl) (fun hc => trivial) (fun hc => zG rfl rfl) ?_
    refine stepG [(112, _)] (zD rfl rfl rfl) rfl (nb hn rfl) (fun hc => ⟨⟨_, rfl, hc⟩, trivial⟩) (fun hc => yW rfl rfl rfl) ?_
    refine sq rfl rfl hn rfl (q_or rfl rfl rfl (by intro hB; first | (rw [hB]; rfl) | (rw [hB, hc]; rfl) | simp_all)) ?_
    refine sq rfl rfl hn rfl (zG rfl rfl) ?_
    refine stepG [] (zD rfl rfl rfl) rfl (nb hn rfl) (fun hc => trivial) (fun hc => zG rfl rfl) ?_
    refine stepG [] (zD rfl rfl rfl) rfl (nb hn rfl) (fun hc => trivial) (fun hc => zG rfl rfl) ?_
    refine stepG [(116, _), (117, _)] (zD rfl rfl rfl) rfl (nb hn rfl) (fun hc => ⟨⟨_, rfl, hc⟩, ⟨_, rfl, hc⟩, trivial⟩) (fun hc => y7 rfl rfl rfl) ?_
    refine sq rfl rfl hn rfl (q_or rfl rfl rfl (by intro hB; first | (rw [hB]; rfl) | (rw [hB, hc]; rfl) | simp_all)) ?_
    refine sq rfl rfl hn rfl (zG rfl rfl) ?_
    refine stepG [] (zD rfl rfl rfl) rfl (nb hn rfl) (fun hc => trivial) (fun hc => zG rfl rfl) ?_
    refine stepG [] (zD rfl rfl rfl) rfl (nb hn rfl) (fun hc => trivial) (fun hc => zG rfl rfl) ?_
    refine stepG [(121, _), (122, _)] (zD rfl rfl rfl) rfl (nb hn rfl) (fun hc => ⟨⟨_, rfl, hc⟩, ⟨_, rfl, hc⟩, trivial⟩) (fun hc => y7 rfl rfl rfl) ?_
    refine sq rfl rfl hn rfl (q_or rfl rfl rfl (by intro hB; first | (rw [hB]; rfl) | (rw [hB, hc]; rfl) | simp_all)) ?_
    refine zE (zA ?_)
    refine zQ rfl (fun hb3 => ?_) (fun hb3 => ?_)
    ·
     simp at hb3; omega
    ·
     refine zR (zA (zC (zC (zB ?_))))
     refine sq rfl rfl hn rfl (ze rfl rfl Tryz.underlying33 rfl sz33 rfl rfl seesF0) ?_
     refine stepW (s_call [] (fun _ => fault8_ok (duesL l (l.dues ++ [q]))) rfl (zI rfl) rfl (nb hn rfl) (fun _ => trivial) rfl rfl (.refl _)) fun _ => ?_
     refine sq rfl rfl hn rfl (zF rfl rfl) ?_
     refine zE (zA (zC (zB ?_)))
     refine sq rfl rfl hn rfl (zG rfl rfl) ?_
     refine sq rfl rfl hn rfl (yW rfl rfl rfl) ?_
     refine zE (zA ?_)
     refine zQ rfl (fun hb4 => ?_) (fun hb4 => ?_)
     ·
      have hc4 : checkL (duesL l (l.dues ++ [q])) ≠ 0 := by simpa using hb4
      have hb4 := zDN (h := handedR (houN l) ws) hc4
      refine zC (zB ?_)
      refine sq rfl rfl hn rfl (zG rfl rfl) ?_
      refine sq rfl rfl hn rfl (zG rfl rfl) ?_
      refine sq rfl rfl hn rfl (yN rfl rfl rfl) ?_
      refine sq rfl rfl hn rfl (zG rfl rfl) ?_
      refine stepW (s_call [] (fun hc => zCi) rfl (zD rfl rfl rfl) rfl (nb hn rfl) (fun hc => trivial) rfl rfl (.refl _)) fun _ => ?_
      refine sq rfl rfl hn rfl (yA rfl rfl rfl (by intro hB; first | (rw [hB]; rfl) | (rw [hB, hc]; rfl) | simp_all)) ?_
      refine sq rfl rfl hn rfl (zF rfl rfl) ?_
      refine zE (zA (zP (zL ?_)))
      refine zi (zl (.inl rfl) hl rfl (.tmp rfl)) ?_
      simp [hb4]
     ·
      have hc4 : checkL (duesL l (l.dues ++ [q])) = 0 := by simpa using hb4
      have L4 := kz hc4
      have hb4 := zAT hc4 (zBX L4 (h := handedR (houN l) ws) hho)
      have hn4 := more_due H (L4.hok hho.2)
      have hq4 := L4.dq q (List.mem_append_right _ (List.mem_singleton.2 rfl))
      refine zR (zA (zC (zB ?_)))
      refine sq rfl rfl hn rfl (zG rfl rfl) ?_
      refine sq rfl rfl hn rfl (yN rfl rfl rfl) ?_
      refine sq rfl rfl hn rfl (zG rfl rfl) ?_
      refine stepG [] (zD rfl rfl rfl) rfl (nb hn rfl) (fun hc => trivial) (fun hc => zG rfl rfl) ?_
      refine stepG [] (zD rfl rfl rfl) rfl (nb hn rfl) (fun hc => trivial) (fun hc => zG rfl rfl) ?_
      refine stepG [] (zD rfl rfl rfl) rfl (nb hn rfl) (fun hc => trivial) (fun hc => zO rfl rfl Tryz.underlying35 rfl sz3 rfl) ?_
      refine stepG [(140, _)] (zD rfl rfl rfl) rfl (nb hn rfl) (fun hc => ⟨⟨_, rfl, hc⟩, trivial⟩) (fun hc => zT rfl rfl Tryz.underlying3 rfl seesF0) ?_
      refine stepG [(139, _), (141, _)] (zD rfl rfl rfl) rfl (nb hn rfl) (fun hc => ⟨⟨_, rfl, hc⟩, ⟨_, rfl, hc⟩, trivial⟩) (fun hc => z7 rfl rfl rfl (r := boughtR l (handedR (houN l) ws) + q.num) (by show IntKind.i64.wrap (boughtR l (handedR (houN l) ws) + q.num) = _; exact i64w (by omega) rfl)) ?_
      refine stepG [(138, _), (142, _)] (zD rfl rfl rfl) rfl (nb hn rfl) (fun hc => ⟨⟨_, rfl, hc⟩, ⟨_, rfl, hc⟩, trivial⟩) (fun hc => kp rfl rfl rfl) ?_
      refine sq rfl rfl hn rfl (yA rfl rfl rfl (by intro hB; first | (rw [hB]; rfl) | (rw [hB, hc]; rfl) | simp_all)) ?_
      refine sq rfl rfl hn rfl (zG rfl rfl) ?_
      refine stepW (s_call [] (fun hc => zCi) rfl (zD rfl rfl rfl) rfl (nb hn rfl) (fun hc => trivial) rfl rfl (.refl _)) fun _ => ?_
      refine sq rfl rfl hn rfl (yA rfl rfl rfl (by intro hB; first | (rw [hB]; rfl) | (rw [hB, hc]; rfl) | simp_all)) ?_
      refine sq rfl rfl hn rfl (zF rfl rfl) ?_
      refine zE (zA (zP ?_))
      refine zi (zl (.inl rfl) hl rfl (.tmp rfl)) ?_
      simp [hb4]; exact hn4
end Go.Proofs.YtaokpncjemkhcaaGreat
namespace Go.Proofs.YtaokpncjemkhcaaGreat
open Go.ChangeShapes Go.WideShapes Go.ChangeAt Go.RowKit
set_option linter.all false
theorem ShortMore_pure (xs : List D) (h : Sat [SLdg, SU16s, SU8, SDue] xs) : PureAt Tryz.prog 7 xs (.bool true) := by
  obtain ⟨_, _, rfl, ⟨a1, rfl⟩, _, _, rfl, ⟨a2, rfl, h2⟩, _, _, rfl, ⟨a3, rfl, h3⟩, _, _, rfl, ⟨a4, rfl, h4⟩, rfl⟩ := h
  exact ShortMore_ok a1 a2 h2.1 a3 h3 a4
set_option maxRecDepth 100000 in
theorem shortMore_lifted (os : Os) (started : os.Started) (H : Type) (enc : TypeId × Value → H) :
    ReturnsInHanded {} Tryz.checked os 7 .any (Rows.shortMoreSpec.pre6 enc Tryz.prog Tryz.f7 Rows.shortMoreRow.domain false) (Rows.shortMoreSpec.post enc Tryz.prog Tryz.f7 false true false false) := by
  refine returnsInHanded_of_change_sized (C := Tryz.checked) own started (by kernel_rfl) Tryz.func7
    (ChangeSpec.witness6 (enc := enc) (C := Tryz.checked) false ⟨#[], #[.agg #[.int .i64 0, .slice none 0 0, .slice none 0 0, .slice none 0 0, .int .i64 0, .slice none 0 0, .slice none 0 0], .slice none 0 0, .int .u8 0, .agg #[.int .i64 0, .int .i64 0, .int .i64 0]], []⟩ 8 (by kernel_rfl) (by kernel_rfl) (by kernel_rfl) (by kernel_rfl)) ?_
  intro W base args ds gs before hval hW _ hz _
  exact law_contract (ts := [33, 71, 5, 35]) (Ss := [SLdg, SU16s, SU8, SDue]) laidOut (by rw [Tryz.params7]) (by kernel_rfl) (by kernel_rfl) Tryz.underlying4 rfl rfl
    (fun ds h => by match ds, h with | [d1, d2, d3, d4], _ => rfl) ⟨pLdg, pU16s, pU8, pDue, trivial⟩ ShortMore_pure W base args ds gs before hval hW hz (fun g hg => by cases hg)
theorem shortMore_holds : Rows.ShortMoreSaid :=
  OpenClaim.holds_of_wide 7 Tryz.f7 rfl rfl rfl rfl rfl rfl rfl ⟨rfl, rfl, rfl, rfl, rfl⟩ rfl rfl rfl rfl rfl (by kernel_rfl) Tryz.func7 (by kernel_rfl)
    (of_decide_eq_true (by kernel_rfl)) (by unfold Func.isWrapper; first | (rw [if_pos (by decide +kernel)]; kernel_rfl) | (rw [if_neg (by decide +kernel)]; exact ⟨rfl, rfl⟩))
    (fun os started H enc _ => shortMore_lifted os started H enc)
end Go.Proofs.YtaokpncjemkhcaaGreat
