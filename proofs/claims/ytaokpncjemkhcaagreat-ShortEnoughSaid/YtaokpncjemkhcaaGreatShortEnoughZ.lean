/-
  The law ShortEnough returns true for every input, and leaves its arguments as they were: the given statement, whole. No condition.
-/
import Derived.Test.YtaokpncjemkhcaaGreatShortEnoughN
namespace Go.Proofs.YtaokpncjemkhcaaGreat
open Go.RowKit
set_option maxRecDepth 20000
set_option linter.all false
theorem zFe {l : Ldg} (h : thinL l = true) : l.reg.start.length ≤ 7 ∧ l.reg.entries.length ≤ 9 ∧ l.reg.sights.length ≤ 7 ∧ l.dues.length ≤ 9 ∧ l.lends.length ≤ 7 := by
  unfold thinL thinB at h
  simp only [Bool.and_eq_true, decide_eq_true_eq] at h
  obtain ⟨⟨⟨⟨a, b⟩, c⟩, d⟩, e⟩ := h
  omega
theorem zE4 {l : Ldg} {b : Bool} (h : (!(thinL l && b)) = false) : thinL l = true := by cases hh : thinL l <;> simp_all
theorem notThin {b : Bool} (h : (!b) = false) : b = true := by cases b <;> simp_all
theorem zCp (a : List Int) : intsB a a = true := k9.2 rfl
theorem enR_eq {l : Ldg} (L : Lok l) (hk : knownR l = (handsR l, 0)) : enR l = rsL l (handsR l) (2 ^ houN l) := by
  have hN := L.hN; have hln := L.ln
  unfold enR rsL; rw [hk]
  exact small_law (by omega) fun o _ => whole_bits (by omega) (by omega)
theorem hs_all {l : Ldg} (hk : knownR l = (handsR l, 0)) : ∀ h ∈ handsR l, HsOK l h := fun h hh => zEd h (by rw [hk]; exact hh)
theorem ShortHands_ok (l : Ldg) : PureAt Tryz.prog 4 [ldgD l] (.bool true) := by
 refine PureAt.of_awp Tryz.func4 rfl (by kernel_rfl) (Nat.le_of_ble_eq_true rfl) fun Γ hn hl => ?_
 refine zC (zB ?_)
 refine stepW (zt 1 rfl rfl rfl (nb hn rfl) rfl rfl) fun b1 => ?_
 refine sq rfl rfl hn rfl (zF rfl rfl) ?_
 refine zE (zA (zC (zC ?_)))
 refine zx (zq (t := 1) 1 rfl (nb hn rfl) rfl rfl trivial) ?_
 refine zB ?_
 refine sq rfl rfl hn rfl (ze rfl rfl Tryz.underlying33 rfl sz33 rfl rfl seesF0) ?_
 refine stepW (s_call [] (fun _ => zFG l 800) rfl (zK rfl) rfl (nb hn rfl) (fun _ => trivial) rfl rfl (.refl _)) fun _ => ?_
 refine sq rfl rfl hn rfl (yB rfl rfl) ?_
 refine zE (zA ?_)
 refine zP rfl (fun hb0 => ?_) (fun hb0 => ?_)
 ·
  refine zC (zB ?_)
  refine stepW (s_call [] (fun _ => y8) rfl (zK rfl) rfl (nb hn rfl) (fun _ => trivial) rfl rfl (.refl _)) fun _ => ?_
  refine sq rfl rfl hn rfl (zF rfl rfl) ?_
  refine zE (zA (zQ (zL ?_)))
  refine zh (zk (.inl rfl) hl rfl (.tmp rfl)) ?_
  rfl
 ·
  have hth := zE4 hb0
  obtain ⟨z1, z2, z3, z4, z5⟩ := zFe hth
  refine zR (zA (zC (zB ?_)))
  refine sq rfl rfl hn rfl (ze rfl rfl Tryz.underlying33 rfl sz33 rfl rfl seesF0) ?_
  refine stepW (s_call [] (fun _ => zBx l (by omega) (by omega) (by omega) (by omega) (by omega)) rfl (zK rfl) rfl (nb hn rfl) (fun _ => trivial) rfl rfl (.refl _)) fun _ => ?_
  refine stepW (s_call [] (fun _ => zEt l) rfl (zK rfl) rfl (nb hn rfl) (fun _ => trivial) rfl rfl (.refl _)) fun _ => ?_
  refine sq rfl rfl hn rfl (zG rfl rfl) ?_
  refine sq rfl rfl hn rfl (za rfl rfl rfl) ?_
  refine sq rfl rfl hn rfl (za rfl rfl rfl) ?_
  refine sq rfl rfl hn rfl (zF rfl rfl) ?_
  refine sq rfl rfl hn rfl (zF rfl rfl) ?_
  refine zE (zA (zC (zC ?_)))
  refine zz (W := fun b => True) fmo ?_
  refine d1q (i := 0) rfl (by kernel_rfl) (fun _ _ _ _ h => h) rfl rfl hn rfl (ze rfl rfl Tryz.underlying33 rfl sz33 rfl rfl seesFA) ?_
  refine d1q (i := 3) rfl (by kernel_rfl) (fun _ _ _ _ h => h) rfl rfl hn rfl (ze rfl rfl Tryz.underlying33 rfl sz33 rfl rfl seesFA) ?_
  refine zM ?_
  refine zf (i := 1) (by kernel_rfl) rfl (s_call [] (fun _ => zBx l (by omega) (by omega) (by omega) (by omega) (by omega)) rfl (zK rfl) rfl (nb hn rfl) (fun _ => trivial) rfl rfl (.refl _)) fun _ => ?_
  refine d2_of_d1 (zM ?_)
  refine zf (i := 2) (by kernel_rfl) rfl (s_call [] (fun _ => ke l) rfl (zK rfl) rfl (nb hn rfl) (fun _ => trivial) rfl rfl (.refl _)) fun _ => ?_
  refine d2_of_d1 (zM ?_)
  refine zf (i := 4) (by kernel_rfl) rfl (s_call [] (fun _ => zB5 l) rfl (zK rfl) rfl (nb hn rfl) (fun _ => trivial) rfl rfl (.refl _)) fun _ => ?_
  refine d2_of_d1 ?_
  refine d1q (i := 5) rfl (by kernel_rfl) (fun _ _ _ _ h => h) rfl rfl hn rfl (yR rfl rfl rfl) ?_
  refine zM ?_
  refine zl (by kernel_rfl) ?_
  refine zA ?_
  refine zP rfl (fun hb1 => ?_) (fun hb1 => ?_)
  ·
   simp at hb1
  ·
   refine zR (zA (zC (zC (zB ?_))))
   refine sq rfl rfl hn rfl (ze rfl rfl Tryz.underlying33 rfl sz33 rfl rfl seesF0) ?_
   refine stepW (s_call [] (fun _ => zB5 l) rfl (zK rfl) rfl (nb hn rfl) (fun _ => trivial) rfl rfl (.refl _)) fun _ => ?_
   refine sq rfl rfl hn rfl (zF rfl rfl) ?_
   refine zE (zA (zC (zB ?_)))
   refine sq rfl rfl hn rfl (zG rfl rfl) ?_
   refine sq rfl rfl hn rfl (yR rfl rfl rfl) ?_
   refine zE (zA ?_)
   refine zP rfl (fun hb2 => ?_) (fun hb2 => ?_)
   ·
    have hc : checkL l ≠ 0 := by simpa using hb2
    have hk := kB hc
    refine zC (zB ?_)
    refine sq rfl rfl hn rfl (zG rfl rfl) ?_
    refine sq rfl rfl hn rfl (zG rfl rfl) ?_
    refine sq rfl rfl hn rfl (yE rfl rfl rfl) ?_
    refine sq rfl rfl hn rfl (zG rfl rfl) ?_
    refine stepG [] (zD rfl rfl rfl) rfl (nb hn rfl) (fun hc => trivial) (fun hc => zG rfl rfl) ?_
    refine stepG [(32, _)] (zD rfl rfl rfl) rfl (nb hn rfl) (fun hc => ⟨⟨_, rfl, hc⟩, trivial⟩) (fun hc => zp rfl rfl Tryz.underlying54) ?_
    refine stepG [(33, _)] (zD rfl rfl rfl) rfl (nb hn rfl) (fun hc => ⟨⟨_, rfl, hc⟩, trivial⟩) (fun hc => yE rfl rfl rfl) ?_
    refine sq rfl rfl hn rfl (z8 rfl rfl rfl (by intro hB; first | (rw [hB]; rfl) | (rw [hB, hc]; rfl) | simp_all)) ?_
    refine sq rfl rfl hn rfl (zG rfl rfl) ?_
    refine stepW (s_call [] (fun hc => y8) rfl (zD rfl rfl rfl) rfl (nb hn rfl) (fun hc => trivial) rfl rfl (.refl _)) fun _ => ?_
    refine sq rfl rfl hn rfl (z8 rfl rfl rfl (by intro hB; first | (rw [hB]; rfl) | (rw [hB, hc]; rfl) | simp_all)) ?_
    refine sq rfl rfl hn rfl (zF rfl rfl) ?_
    refine zE (zA (zQ (zL ?_)))
    refine zh (zk (.inl rfl) hl rfl (.tmp rfl)) ?_
    rw [hk]; simp
   ·
    have hc : checkL l = 0 := by simpa using hb2
    have L := kz hc
    refine zR (zA (zC (zB ?_)))
    refine sq rfl rfl hn rfl (ze rfl rfl Tryz.underlying33 rfl sz33 rfl rfl seesF0) ?_
    refine stepW (s_call [] (fun _ => zCW l L) rfl (zK rfl) rfl (nb hn rfl) (fun _ => trivial) rfl rfl (.refl _)) fun _ => ?_
    refine sq rfl rfl hn rfl (zF rfl rfl) ?_
    refine zE (zA (zC (zC (zB ?_))))
    refine sq rfl rfl hn rfl (zG rfl rfl) ?_
    refine sq rfl rfl hn rfl (zp rfl rfl Tryz.underlying54) ?_
    refine sq rfl rfl hn rfl (yE rfl rfl rfl) ?_
    refine zE (zA ?_)
    refine zP rfl (fun hb3 => ?_) (fun hb3 => ?_)
    ·
     have hk := zAa hc (by simpa using hb3)
     refine zC (zB ?_)
     refine sq rfl rfl hn rfl (zG rfl rfl) ?_
     refine sq rfl rfl hn rfl (yE rfl rfl rfl) ?_
     refine sq rfl rfl hn rfl (zG rfl rfl) ?_
     refine stepG [] (zD rfl rfl rfl) rfl (nb hn rfl) (fun hc => trivial) (fun hc => zG rfl rfl) ?_
     refine stepG [(47, _)] (zD rfl rfl rfl) rfl (nb hn rfl) (fun hc => ⟨⟨_, rfl, hc⟩, trivial⟩) (fun hc => zp rfl rfl Tryz.underlying54) ?_
     refine stepG [(48, _)] (zD rfl rfl rfl) rfl (nb hn rfl) (fun hc => ⟨⟨_, rfl, hc⟩, trivial⟩) (fun hc => yE rfl rfl rfl) ?_
     refine sq rfl rfl hn rfl (z8 rfl rfl rfl (by intro hB; first | (rw [hB]; rfl) | (rw [hB, hc]; rfl) | simp_all)) ?_
     refine sq rfl rfl hn rfl (zG rfl rfl) ?_
     refine stepW (s_call [] (fun hc => y8) rfl (zD rfl rfl rfl) rfl (nb hn rfl) (fun hc => trivial) rfl rfl (.refl _)) fun _ => ?_
     refine sq rfl rfl hn rfl (z8 rfl rfl rfl (by intro hB; first | (rw [hB]; rfl) | (rw [hB, hc]; rfl) | simp_all)) ?_
     refine sq rfl rfl hn rfl (zF rfl rfl) ?_
     refine zE (zA (zQ (zL ?_)))
     refine zh (zk (.inl rfl) hl rfl (.tmp rfl)) ?_
     rw [hk]; simp
    ·
     have hk := zAR hc (by simpa using hb3)
     refine zR (zA (zC (zC (zB ?_))))
     refine sq rfl rfl hn rfl (zG rfl rfl) ?_
     refine sq rfl rfl hn rfl (yR rfl rfl rfl) ?_
     refine sq rfl rfl hn rfl (zG rfl rfl) ?_
     refine stepG [] (zD rfl rfl rfl) rfl (nb hn rfl) (fun hc => trivial) (fun hc => zG rfl rfl) ?_
     refine stepG [(57, _)] (zD rfl rfl rfl) rfl (nb hn rfl) (fun hc => ⟨⟨_, rfl, hc⟩, trivial⟩) (fun hc => zp rfl rfl Tryz.underlying54) ?_
     refine stepG [] (zD rfl rfl rfl) rfl (nb hn rfl) (fun hc => trivial) (fun hc => zG rfl rfl) ?_
     refine stepG [(59, _)] (zD rfl rfl rfl) rfl (nb hn rfl) (fun hc => ⟨⟨_, rfl, hc⟩, trivial⟩) (fun hc => zp rfl rfl Tryz.underlying54) ?_
     refine stepG [(58, _), (60, _)] (zD rfl rfl rfl) rfl (nb hn rfl) (fun hc => ⟨⟨_, rfl, hc⟩, ⟨_, rfl, hc⟩, trivial⟩) (fun hc => yR rfl rfl rfl) ?_
     refine sq rfl rfl hn rfl (q_or rfl rfl rfl (by intro hB; first | (rw [hB]; rfl) | (rw [hB, hc]; rfl) | simp_all)) ?_
     refine zE (zA ?_)
     refine zP rfl (fun hb4 => ?_) (fun hb4 => ?_)
     ·
      rw [hk] at hb4; simp at hb4
     ·
      refine zR (zA (zC (zC (zB ?_))))
      refine sq rfl rfl hn rfl (zF rfl rfl) ?_
      refine zE (zA (zS ?_))
      refine awp_loop_on (ι := {x : Nat // x ≤ (handsR l).length}) (fun x => (7, true, .d (.int .i64 (x.1 : Nat))) :: anys [63, 64, 65, 66, 69, 70, 71, 72, 73, 74, 75, 76, 77, 78, 67, 68]) (fun x => []) (fun x => (handsR l).length - x.1) ⟨0, Nat.zero_le _⟩ ⟨.inl rfl, zJ _⟩ trivial ?_
      rintro ⟨k, hkk⟩
      dsimp only
      have h625 := zBE L
      refine zC (zC (zB ?_))
      refine sq rfl rfl hn rfl (zG rfl rfl) ?_
      refine sq rfl rfl hn rfl (zG rfl rfl) ?_
      refine sq rfl rfl hn rfl (zp rfl rfl Tryz.underlying54) ?_
      refine sq rfl rfl hn rfl (yA rfl rfl rfl) ?_
      refine zE (zA ?_)
      refine zP rfl (fun hb5 => ?_) (fun hb5 => ?_)
      ·
       have hkl : k < (handsR l).length := by simpa [hk] using hb5
       obtain ⟨h, hh⟩ := zw hkl
       have hh1 : (knownR l).1[k]? = some h := by rw [hk]; exact hh
       refine zR (zA (zC (zS (zC ?_))))
       refine zz (W := fun b => True) fmo ?_
       refine d1q (i := 0) rfl (by kernel_rfl) (fun _ _ _ _ h => h) rfl rfl hn rfl (zG rfl rfl) ?_
       refine d1q (i := 1) rfl (by kernel_rfl) (fun _ _ _ _ h => h) rfl rfl hn rfl (zG rfl rfl) ?_
       refine d1q (i := 2) rfl (by kernel_rfl) (fun _ _ _ _ h => h) rfl rfl hn rfl (q_index (i := k) rfl rfl rfl Tryz.underlying54 sz22 rfl (mget hh1)) ?_
       refine d1q (i := 3) rfl (by kernel_rfl) (fun _ _ _ _ h => h) rfl rfl hn rfl (zV rfl rfl Tryz.underlying22 rfl seesFA) ?_
       refine d1q (i := 4) rfl (by kernel_rfl) (fun _ _ _ _ h => h) rfl rfl hn rfl (zG rfl rfl) ?_
       refine d1q (i := 5) rfl (by kernel_rfl) (fun _ _ _ _ h => h) rfl rfl hn rfl (zG rfl rfl) ?_
       refine d1q (i := 6) rfl (by kernel_rfl) (fun _ _ _ _ h => h) rfl rfl hn rfl (q_index (i := k) rfl rfl rfl Tryz.underlying54 sz22 rfl (mget hh)) ?_
       refine d1q (i := 7) rfl (by kernel_rfl) (fun _ _ _ _ h => h) rfl rfl hn rfl (zV rfl rfl Tryz.underlying22 rfl seesFA) ?_
       refine zM ?_
       refine zf (i := 8) (by kernel_rfl) rfl (s_call [] (fun _ => kI h h) rfl (zK rfl) rfl (nb hn rfl) (fun _ => trivial) rfl rfl (.refl _)) fun _ => ?_
       refine d2_of_d1 ?_
       refine d1q (i := 9) rfl (by kernel_rfl) (fun _ _ _ _ h => h) rfl rfl hn rfl (yB rfl rfl) ?_
       refine zM ?_
       refine zl (by kernel_rfl) ?_
       refine zA ?_
       refine zP rfl (fun hb6 => ?_) (fun hb6 => ?_)
       ·
        rw [zCp] at hb6; cases hb6
       ·
        refine zR (zX (zA (zB ?_)))
        refine sq rfl rfl hn rfl (zG rfl rfl) ?_
        refine sq rfl rfl hn rfl (zr rfl rfl rfl (r := ((k + 1 : Nat) : Int)) (i64w (by omega) (by omega))) ?_
        refine sq rfl rfl hn rfl (zF rfl rfl) ?_
        refine zE ?_
        exact zU ⟨k + 1, by omega⟩ ⟨.inl rfl, zJ _⟩ trivial (by simp only; omega) (by repeat (first | exact kr _ | refine kc rfl ?_)) (by repeat (first | exact kr _ | refine kc rfl ?_))
      ·
       refine zi (zI (zI (zT (zA (zC (zB ?_))))))
       refine stepW (s_call [] (fun _ => y8) rfl (zK rfl) rfl (nb hn rfl) (fun _ => trivial) rfl rfl (.refl _)) fun _ => ?_
       refine sq rfl rfl hn rfl (zF rfl rfl) ?_
       refine zE (zA (zQ ?_))
       refine zh (zk (.inl rfl) hl rfl (.tmp rfl)) ?_
       rfl
theorem ShortEnough_ok (l : Ldg) : PureAt Tryz.prog 6 [ldgD l] (.bool true) := by
 refine PureAt.of_awp Tryz.func6 rfl (by kernel_rfl) (Nat.le_of_ble_eq_true rfl) fun Γ hn hl => ?_
 refine zC (zB ?_)
 refine stepW (zt 1 rfl rfl rfl (nb hn rfl) rfl rfl) fun b1 => ?_
 refine sq rfl rfl hn rfl (zF rfl rfl) ?_
 refine zE (zA (zC (zC ?_)))
 refine zx (zq (t := 1) 1 rfl (nb hn rfl) rfl rfl trivial) ?_
 refine zB ?_
 refine sq rfl rfl hn rfl (ze rfl rfl Tryz.underlying33 rfl sz33 rfl rfl seesF0) ?_
 refine stepW (s_call [] (fun _ => zFG l 800) rfl (zK rfl) rfl (nb hn rfl) (fun _ => trivial) rfl rfl (.refl _)) fun _ => ?_
 refine sq rfl rfl hn rfl (yB rfl rfl) ?_
 refine zE (zA ?_)
 refine zP rfl (fun hb0 => ?_) (fun hb0 => ?_)
 ·
  refine zC (zB ?_)
  refine stepW (s_call [] (fun _ => y8) rfl (zK rfl) rfl (nb hn rfl) (fun _ => trivial) rfl rfl (.refl _)) fun _ => ?_
  refine sq rfl rfl hn rfl (zF rfl rfl) ?_
  refine zE (zA (zQ (zL ?_)))
  refine zh (zk (.inl rfl) hl rfl (.tmp rfl)) ?_
  rfl
 ·
  have hth := zE4 hb0
  obtain ⟨z1, z2, z3, z4, z5⟩ := zFe hth
  refine zR (zA (zC (zB ?_)))
  refine sq rfl rfl hn rfl (ze rfl rfl Tryz.underlying33 rfl sz33 rfl rfl seesF0) ?_
  refine stepW (s_call [] (fun _ => zBx l (by omega) (by omega) (by omega) (by omega) (by omega)) rfl (zK rfl) rfl (nb hn rfl) (fun _ => trivial) rfl rfl (.refl _)) fun _ => ?_
  refine stepW (s_call [] (fun _ => zDI l) rfl (zK rfl) rfl (nb hn rfl) (fun _ => trivial) rfl rfl (.refl _)) fun _ => ?_
  refine sq rfl rfl hn rfl (zG rfl rfl) ?_
  refine sq rfl rfl hn rfl (za rfl rfl rfl) ?_
  refine sq rfl rfl hn rfl (za rfl rfl rfl) ?_
  refine sq rfl rfl hn rfl (zF rfl rfl) ?_
  refine sq rfl rfl hn rfl (zF rfl rfl) ?_
  refine zE (zA (zC (zC (zB ?_))))
  refine sq rfl rfl hn rfl (ze rfl rfl Tryz.underlying33 rfl sz33 rfl rfl seesF0) ?_
  refine stepW (s_call [] (fun _ => zB5 l) rfl (zK rfl) rfl (nb hn rfl) (fun _ => trivial) rfl rfl (.refl _)) fun _ => ?_
  refine sq rfl rfl hn rfl (zF rfl rfl) ?_
  refine zE (zA (zC (zB ?_)))
  refine sq rfl rfl hn rfl (zG rfl rfl) ?_
  refine sq rfl rfl hn rfl (yR rfl rfl rfl) ?_
  refine zE (zA ?_)
  refine zP rfl (fun hb1 => ?_) (fun hb1 => ?_)
  ·
   have hc : checkL l ≠ 0 := by simpa using hb1
   have hk := kB hc
   have he := zD4 (l := l) (by rw [hk]; exact hc)
   refine zC (zB ?_)
   refine sq rfl rfl hn rfl (zG rfl rfl) ?_
   refine sq rfl rfl hn rfl (zG rfl rfl) ?_
   refine sq rfl rfl hn rfl (yE rfl rfl rfl) ?_
   refine sq rfl rfl hn rfl (zG rfl rfl) ?_
   refine stepG [] (zD rfl rfl rfl) rfl (nb hn rfl) (fun hc => trivial) (fun hc => zG rfl rfl) ?_
   refine stepG [(27, _)] (zD rfl rfl rfl) rfl (nb hn rfl) (fun hc => ⟨⟨_, rfl, hc⟩, trivial⟩) (fun hc => zp rfl rfl Tryz.underlying22) ?_
   refine stepG [(28, _)] (zD rfl rfl rfl) rfl (nb hn rfl) (fun hc => ⟨⟨_, rfl, hc⟩, trivial⟩) (fun hc => yE rfl rfl rfl) ?_
   refine sq rfl rfl hn rfl (z8 rfl rfl rfl (by intro hB; first | (rw [hB]; rfl) | (rw [hB, hc]; rfl) | simp_all)) ?_
   refine sq rfl rfl hn rfl (zG rfl rfl) ?_
   refine stepW (s_call [] (fun hc => y8) rfl (zD rfl rfl rfl) rfl (nb hn rfl) (fun hc => trivial) rfl rfl (.refl _)) fun _ => ?_
   refine sq rfl rfl hn rfl (z8 rfl rfl rfl (by intro hB; first | (rw [hB]; rfl) | (rw [hB, hc]; rfl) | simp_all)) ?_
   refine sq rfl rfl hn rfl (zF rfl rfl) ?_
   refine zE (zA (zQ (zL ?_)))
   refine zh (zk (.inl rfl) hl rfl (.tmp rfl)) ?_
   rw [he, hk]; simp
  ·
   have hc : checkL l = 0 := by simpa using hb1
   have L := kz hc
   refine zR (zA (zC (zB ?_)))
   refine sq rfl rfl hn rfl (ze rfl rfl Tryz.underlying33 rfl sz33 rfl rfl seesF0) ?_
   refine stepW (s_call [] (fun _ => zCW l L) rfl (zK rfl) rfl (nb hn rfl) (fun _ => trivial) rfl rfl (.refl _)) fun _ => ?_
   refine sq rfl rfl hn rfl (zF rfl rfl) ?_
   refine zE (zA (zC (zC (zB ?_))))
   refine sq rfl rfl hn rfl (zG rfl rfl) ?_
   refine sq rfl rfl hn rfl (zp rfl rfl Tryz.underlying54) ?_
   refine sq rfl rfl hn rfl (yE rfl rfl rfl) ?_
   refine zE (zA ?_)
   refine zP rfl (fun hb2 => ?_) (fun hb2 => ?_)
   ·
    have hk := zAa hc (by simpa using hb2)
    have he := zD4 (l := l) (by rw [hk]; decide)
    refine zC (zB ?_)
    refine sq rfl rfl hn rfl (zG rfl rfl) ?_
    refine sq rfl rfl hn rfl (yE rfl rfl rfl) ?_
    refine sq rfl rfl hn rfl (zG rfl rfl) ?_
    refine stepG [] (zD rfl rfl rfl) rfl (nb hn rfl) (fun hc => trivial) (fun hc => zG rfl rfl) ?_
    refine stepG [(42, _)] (zD rfl rfl rfl) rfl (nb hn rfl) (fun hc => ⟨⟨_, rfl, hc⟩, trivial⟩) (fun hc => zp rfl rfl Tryz.underlying22) ?_
    refine stepG [(43, _)] (zD rfl rfl rfl) rfl (nb hn rfl) (fun hc => ⟨⟨_, rfl, hc⟩, trivial⟩) (fun hc => yE rfl rfl rfl) ?_
    refine sq rfl rfl hn rfl (z8 rfl rfl rfl (by intro hB; first | (rw [hB]; rfl) | (rw [hB, hc]; rfl) | simp_all)) ?_
    refine sq rfl rfl hn rfl (zG rfl rfl) ?_
    refine stepW (s_call [] (fun hc => y8) rfl (zD rfl rfl rfl) rfl (nb hn rfl) (fun hc => trivial) rfl rfl (.refl _)) fun _ => ?_
    refine sq rfl rfl hn rfl (z8 rfl rfl rfl (by intro hB; first | (rw [hB]; rfl) | (rw [hB, hc]; rfl) | simp_all)) ?_
    refine sq rfl rfl hn rfl (zF rfl rfl) ?_
    refine zE (zA (zQ (zL ?_)))
    refine zh (zk (.inl rfl) hl rfl (.tmp rfl)) ?_
    rw [he, hk]; simp
   ·
    have hk := zAR hc (by simpa using hb2)
    have hen := enR_eq L hk
    have h625 := zBE L
    refine zR (zA (zC (zB ?_)))
    refine sq rfl rfl hn rfl (ze rfl rfl Tryz.underlying33 rfl sz33 rfl rfl seesF0) ?_
    refine sq rfl rfl hn rfl (zG rfl rfl) ?_
    refine stepW (s_call [] (fun _ => refSmall_ok l L (handsR l) (hs_all hk) (by omega)) rfl (zK rfl) rfl (nb hn rfl) (fun _ => trivial) rfl rfl (.refl _)) fun _ => ?_
    refine sq rfl rfl hn rfl (zG rfl rfl) ?_
    refine sq rfl rfl hn rfl (za rfl rfl rfl) ?_
    refine sq rfl rfl hn rfl (za rfl rfl rfl) ?_
    refine sq rfl rfl hn rfl (zF rfl rfl) ?_
    refine sq rfl rfl hn rfl (zF rfl rfl) ?_
    refine zE (zA (zC (zC (zB ?_))))
    refine sq rfl rfl hn rfl (zG rfl rfl) ?_
    refine sq rfl rfl hn rfl (yB rfl rfl) ?_
    refine zE (zA ?_)
    refine zP rfl (fun hb3 => ?_) (fun hb3 => ?_)
    ·
     have hrs : rsL l (handsR l) (2 ^ houN l) = none := by simpa using hb3
     have he := zFZ (l := l) (by rw [hk]) (hen.trans hrs)
     refine zC (zB ?_)
     refine sq rfl rfl hn rfl (zG rfl rfl) ?_
     refine sq rfl rfl hn rfl (yE rfl rfl rfl) ?_
     refine sq rfl rfl hn rfl (zG rfl rfl) ?_
     refine stepG [] (zD rfl rfl rfl) rfl (nb hn rfl) (fun hc => trivial) (fun hc => zG rfl rfl) ?_
     refine stepG [(60, _)] (zD rfl rfl rfl) rfl (nb hn rfl) (fun hc => ⟨⟨_, rfl, hc⟩, trivial⟩) (fun hc => zp rfl rfl Tryz.underlying22) ?_
     refine stepG [(61, _)] (zD rfl rfl rfl) rfl (nb hn rfl) (fun hc => ⟨⟨_, rfl, hc⟩, trivial⟩) (fun hc => yE rfl rfl rfl) ?_
     refine sq rfl rfl hn rfl (z8 rfl rfl rfl (by intro hB; first | (rw [hB]; rfl) | (rw [hB, hc]; rfl) | simp_all)) ?_
     refine sq rfl rfl hn rfl (zG rfl rfl) ?_
     refine stepW (s_call [] (fun hc => y8) rfl (zD rfl rfl rfl) rfl (nb hn rfl) (fun hc => trivial) rfl rfl (.refl _)) fun _ => ?_
     refine sq rfl rfl hn rfl (z8 rfl rfl rfl (by intro hB; first | (rw [hB]; rfl) | (rw [hB, hc]; rfl) | simp_all)) ?_
     refine sq rfl rfl hn rfl (zF rfl rfl) ?_
     refine zE (zA (zQ (zL ?_)))
     refine zh (zk (.inl rfl) hl rfl (.tmp rfl)) ?_
     rw [he]; simp
    ·
     obtain ⟨s, hrs⟩ := Option.isSome_iff_exists.1 (notThin hb3)
     have he := zEo (l := l) (by rw [hk]) (hen.trans hrs)
     refine zR (zA (zC (zB ?_)))
     refine sq rfl rfl hn rfl (zG rfl rfl) ?_
     refine sq rfl rfl hn rfl (yE rfl rfl rfl) ?_
     refine sq rfl rfl hn rfl (zG rfl rfl) ?_
     refine stepG [] (zD rfl rfl rfl) rfl (nb hn rfl) (fun hc => trivial) (fun hc => zG rfl rfl) ?_
     refine stepG [] (zD rfl rfl rfl) rfl (nb hn rfl) (fun hc => trivial) (fun hc => zG rfl rfl) ?_
     refine stepW (s_call [(70, _), (71, _)] (fun hc => kI _ _) rfl (zD rfl rfl rfl) rfl (nb hn rfl) (fun hc => ⟨⟨_, rfl, hc⟩, ⟨_, rfl, hc⟩, trivial⟩) rfl rfl (.refl _)) fun _ => ?_
     refine sq rfl rfl hn rfl (z8 rfl rfl rfl (by intro hB; first | (rw [hB]; rfl) | (rw [hB, hc]; rfl) | simp_all)) ?_
     refine sq rfl rfl hn rfl (zG rfl rfl) ?_
     refine stepW (s_call [] (fun hc => y8) rfl (zD rfl rfl rfl) rfl (nb hn rfl) (fun hc => trivial) rfl rfl (.refl _)) fun _ => ?_
     refine sq rfl rfl hn rfl (z8 rfl rfl rfl (by intro hB; first | (rw [hB]; rfl) | (rw [hB, hc]; rfl) | simp_all)) ?_
     refine sq rfl rfl hn rfl (zF rfl rfl) ?_
     refine zE (zA (zQ ?_))
     refine zh (zk (.inl rfl) hl rfl (.tmp rfl)) ?_
     rw [he, hrs]; simp [zCp]
end Go.Proofs.YtaokpncjemkhcaaGreat
namespace Go.Proofs.YtaokpncjemkhcaaGreat
open Go.ChangeShapes Go.WideShapes Go.ChangeAt Go.RowKit
set_option linter.all false
theorem ShortEnough_pure (xs : List D) (h : Sat [SLdg] xs) : PureAt Tryz.prog 6 xs (.bool true) := by
  obtain ⟨_, _, rfl, ⟨a1, rfl⟩, rfl⟩ := h
  exact ShortEnough_ok a1
set_option maxRecDepth 100000 in
theorem shortEnough_lifted (os : Os) (started : os.Started) (H : Type) (enc : TypeId × Value → H) :
    ReturnsInHanded {} Tryz.checked os 6 .any (Rows.shortEnoughSpec.pre6 enc Tryz.prog Tryz.f6 Rows.shortEnoughRow.domain false) (Rows.shortEnoughSpec.post enc Tryz.prog Tryz.f6 false true false false) := by
  refine returnsInHanded_of_change_sized (C := Tryz.checked) own started (by kernel_rfl) Tryz.func6
    (ChangeSpec.witness6 (enc := enc) (C := Tryz.checked) false ⟨#[], #[.agg #[.int .i64 0, .slice none 0 0, .slice none 0 0, .slice none 0 0, .int .i64 0, .slice none 0 0, .slice none 0 0]], []⟩ 8 (by kernel_rfl) (by kernel_rfl) (by kernel_rfl) (by kernel_rfl)) ?_
  intro W base args ds gs before hval hW _ hz _
  exact law_contract (ts := [33]) (Ss := [SLdg]) laidOut (by rw [Tryz.params6]) (by kernel_rfl) (by kernel_rfl) Tryz.underlying4 rfl rfl
    (fun ds h => by match ds, h with | [d1], _ => rfl) ⟨pLdg, trivial⟩ ShortEnough_pure W base args ds gs before hval hW hz (fun g hg => by cases hg)
theorem shortEnough_holds : Rows.ShortEnoughSaid :=
  OpenClaim.holds_of_wide 6 Tryz.f6 rfl rfl rfl rfl rfl rfl rfl ⟨rfl, rfl, rfl, rfl, rfl⟩ rfl rfl rfl rfl rfl (by kernel_rfl) Tryz.func6 (by kernel_rfl)
    (of_decide_eq_true (by kernel_rfl)) (by unfold Func.isWrapper; first | (rw [if_pos (by decide +kernel)]; kernel_rfl) | (rw [if_neg (by decide +kernel)]; exact ⟨rfl, rfl⟩))
    (fun os started H enc _ => shortEnough_lifted os started H enc)
end Go.Proofs.YtaokpncjemkhcaaGreat
