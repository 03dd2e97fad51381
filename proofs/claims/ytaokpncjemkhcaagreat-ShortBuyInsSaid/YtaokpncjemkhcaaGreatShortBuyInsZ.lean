/-
  The law ShortBuyIns returns true for every input, and leaves its arguments as they were: the given statement, whole. No condition.
-/
import Derived.Test.YtaokpncjemkhcaaGreatShortBuyInsN
namespace Go.Proofs.YtaokpncjemkhcaaGreat
open Go.RowKit
set_option maxRecDepth 20000
set_option linter.all false
theorem zDi {l : Ldg} {N : Nat} {h : List Int} (H : Hok l N h) : listedB l.dues (bestR l N h (-1)).1 = true ∧ canL l N h (bestR l N h (-1)).1 = true ∧ (bestR l N h (-1)).2.1 = owedI l.dues - sumI (bestR l N h (-1)).1 ∧
    bestD (canL l N h) (-1) l.dues = some ((bestR l N h (-1)).1, (bestR l N h (-1)).2.1) := by
  have hn : Num0 l.dues := fun q hq => by have := H.hq6 q hq; omega
  obtain ⟨d, n, e⟩ := best_ex (N := N) (ls := fun i => l.lends.getD i false) (hand := h) (qs := l.dues) hn fun i _ => (H.hh5 i).1
  have e' : bestD (canL l N h) (-1) l.dues = some (d, n) := e
  have hb : bestR l N h (-1) = (d, n, true) := by unfold bestR; rw [e']
  obtain ⟨a, b, c, _⟩ := zCA hn e'
  rw [zEn] at b
  rw [hb]; exact ⟨a, b, c, e'⟩
theorem zDc {l : Ldg} {h : List Int} (H : Hok l (houN l) h) : 0 ≤ boughtR l h ∧ boughtR l h ≤ owedI l.dues ∧ boughtR l h ≤ 999 := by
  obtain ⟨a, _, c, _⟩ := zDi H
  have h1 := kp a
  have h2 : ∀ {qs : List Due8}, (∀ q ∈ qs, 1 ≤ q.num ∧ q.num ≤ 4) → owedI qs ≤ 4 * qs.length := fun {qs} hq => by
    induction qs with
    | nil => simp [owedI]
    | cons q qs ih =>
      have := ih fun x hx => hq x (List.mem_cons_of_mem _ hx)
      have := hq q List.mem_cons_self
      simp only [owedI, List.length_cons]; omega
  have h3 := h2 H.hq6
  have h4 := H.hl6
  show 0 ≤ (bestR l (houN l) h (-1)).2.1 ∧ _
  unfold boughtR
  omega
def lawTo (l : Ldg) (hs : List (List Int)) (i : Nat) : Int × Int := (hs.take i).foldl (buyStep l) (999, 0)
theorem zDN {l : Ldg} {hs : List (List Int)} {i : Nat} {h : List Int} (hh : hs[i]? = some h) : lawTo l hs (i + 1) = (min (lawTo l hs i).1 (boughtR l h), max (lawTo l hs i).2 (boughtR l h)) := by
  unfold lawTo
  rw [List.take_add_one, hh, List.foldl_append]; rfl
theorem law_buy {l : Ldg} (L : Lok l) (hk : knownR l = (handsR l, 0)) (hne : handsR l ≠ []) : buyX l = (lawTo l (handsR l) (handsR l).length, 0) := by
  have hh := zGA hk
  unfold buyX; rw [hk, if_neg (by simp)]
  have e : lawTo l (handsR l) (handsR l).length = buyR 999 ((handsR l).map (boughtR l)) := by
    unfold lawTo buyR; rw [List.take_length, List.foldl_map]; rfl
  rw [e]
  exact Prod.ext (buy_same (by simpa using hne) fun n hn => by
    obtain ⟨h, hm, rfl⟩ := List.mem_map.1 hn
    exact zDc (L.hok (hh h hm).2)) rfl
theorem few_or {l : Ldg} {b c : Bool} (h : ((!(thinL l && b)) || c) = false) : thinL l = true := by cases hh : thinL l <;> simp_all
theorem zDT {a : Bool} {l : Ldg} (h : (a && ((checkL l == 0) == true)) = true) : checkL l = 0 := by simp only [Bool.and_eq_true, beq_iff_eq] at h; exact h.2
theorem dues_bd {l : Ldg} (L : Lok l) : ∀ q ∈ l.dues, 0 ≤ q.num ∧ q.num ≤ 4 := fun q hq => by have := L.dq q hq; omega
theorem dues_bd3 {l : Ldg} (L : Lok l) : ∀ q ∈ l.dues, 0 ≤ q.num ∧ q.num ≤ 1000 := fun q hq => by have := L.dq q hq; omega
theorem verdTo_get {l : Ldg} {n i : Nat} (h : i < n) : (verdTo l n)[i]? = some (verdB ((knownR l).1.map (madeB l i))) := by
  unfold verdTo; rw [List.getElem?_map, List.getElem?_range h]; rfl
theorem buyX_bad {l : Ldg} (h : (knownR l).2 ≠ 0) : buyX l = ((0, 0), (knownR l).2) := if_pos h
theorem verdX_bad {l : Ldg} (h : (knownR l).2 ≠ 0) : verdX l = ([], (knownR l).2) := if_pos h
theorem verdX_ok {l : Ldg} (h : (knownR l).2 = 0) : verdX l = (verdTo l l.dues.length, 0) := if_neg (by simpa using h)
theorem ShortBuyIns_ok (l : Ldg) : PureAt Tryz.prog 5 [ldgD l] (.bool true) := by
 refine PureAt.of_awp Tryz.func5 rfl (by kernel_rfl) (Nat.le_of_ble_eq_true rfl) fun Γ hn hl => ?_
 refine zC (zB ?_)
 refine stepW (zq 1 rfl rfl rfl (nb hn rfl) rfl rfl) fun b1 => ?_
 refine sq rfl rfl hn rfl (zF rfl rfl) ?_
 refine zE (zA (zC (zC ?_)))
 refine zy (zr (t := 1) 1 rfl (nb hn rfl) rfl rfl trivial) ?_
 refine zB ?_
 refine sq rfl rfl hn rfl (ze rfl rfl Tryz.underlying33 rfl sz33 rfl rfl seesF0) ?_
 refine stepW (s_call [] (fun _ => few8_ok l 200) rfl (zK rfl) rfl (nb hn rfl) (fun _ => trivial) rfl rfl (.refl _)) fun _ => ?_
 refine sq rfl rfl hn rfl (yD rfl rfl) ?_
 refine sq rfl rfl hn rfl (zG rfl rfl) ?_
 refine stepG [] (zD rfl rfl rfl) rfl (nb hn rfl) (fun hc => trivial) (fun hc => ze rfl rfl Tryz.underlying33 rfl sz33 rfl rfl seesF0) ?_
 refine stepW (s_call [(20, _)] (fun hc => zD2 l) rfl (zD rfl rfl rfl) rfl (nb hn rfl) (fun hc => ⟨⟨_, rfl, hc⟩, trivial⟩) rfl rfl (.refl _)) fun _ => ?_
 refine stepG [(21, _)] (zD rfl rfl rfl) rfl (nb hn rfl) (fun hc => ⟨⟨_, rfl, hc⟩, trivial⟩) (fun hc => yF rfl rfl rfl) ?_
 refine stepG [(22, _)] (zD rfl rfl rfl) rfl (nb hn rfl) (fun hc => ⟨⟨_, rfl, hc⟩, trivial⟩) (fun hc => zG rfl rfl) ?_
 refine stepG [] (zD rfl rfl rfl) rfl (nb hn rfl) (fun hc => trivial) (fun hc => ze rfl rfl Tryz.underlying33 rfl sz33 rfl rfl seesF0) ?_
 refine stepW (s_call [(24, _)] (fun hc => small_ok l (dues_bd (ko (zDT hc))) ((ko (zDT hc)).dl)) rfl (zD rfl rfl rfl) rfl (nb hn rfl) (fun hc => ⟨⟨_, rfl, hc⟩, trivial⟩) rfl rfl (.refl _)) fun _ => ?_
 refine stepG [(25, _)] (zD rfl rfl rfl) rfl (nb hn rfl) (fun hc => ⟨⟨_, rfl, hc⟩, trivial⟩) (fun hc => yD rfl rfl) ?_
 refine stepG [(23, _)] (zD rfl rfl rfl) rfl (nb hn rfl) (fun hc => ⟨⟨_, rfl, hc⟩, trivial⟩) (fun hc => z8 rfl rfl rfl (by intro hB; first | (rw [hB]; rfl) | (rw [hB, hc]; rfl) | simp_all)) ?_
 refine sq rfl rfl hn rfl (q_or rfl rfl rfl (by intro hB; first | (rw [hB]; rfl) | (rw [hB, hc]; rfl) | simp_all)) ?_
 refine zE (zA ?_)
 refine zP rfl (fun hb0 => ?_) (fun hb0 => ?_)
 ·
  refine zC (zB ?_)
  refine stepW (s_call [] (fun _ => zDM) rfl (zK rfl) rfl (nb hn rfl) (fun _ => trivial) rfl rfl (.refl _)) fun _ => ?_
  refine sq rfl rfl hn rfl (zF rfl rfl) ?_
  refine zE (zA (zS (zL ?_)))
  refine zi (zk (.inl rfl) hl rfl (.tmp rfl)) ?_
  rfl
 ·
  have hth := few_or hb0
  obtain ⟨z1, z2, z3, z4, z5⟩ := thin_sz hth
  refine zT (zA (zC (zB ?_)))
  refine sq rfl rfl hn rfl (ze rfl rfl Tryz.underlying33 rfl sz33 rfl rfl seesF0) ?_
  refine stepW (s_call [] (fun _ => zDf l (by omega) (by omega) (by omega) (by omega) (by omega)) rfl (zK rfl) rfl (nb hn rfl) (fun _ => trivial) rfl rfl (.refl _)) fun _ => ?_
  refine stepW (s_call [] (fun _ => zDX l) rfl (zK rfl) rfl (nb hn rfl) (fun _ => trivial) rfl rfl (.refl _)) fun _ => ?_
  refine sq rfl rfl hn rfl (zG rfl rfl) ?_
  refine sq rfl rfl hn rfl (zZ rfl rfl rfl) ?_
  refine sq rfl rfl hn rfl (zZ rfl rfl rfl) ?_
  refine stepW (zj 3 rfl rfl rfl (nb hn rfl) zr62 rfl rfl) fun b3 => ?_
  refine stepW (zm rfl rfl rfl rfl rfl rfl (id := 3) rfl sz62 rfl (Nat.le_of_ble_eq_true rfl) rfl trivial) fun _ => ?_
  refine sq rfl rfl hn rfl (zF rfl rfl) ?_
  refine zE (zA (zC (zB ?_)))
  refine sq rfl rfl hn rfl (ze rfl rfl Tryz.underlying33 rfl sz33 rfl rfl seesF0) ?_
  refine stepW (s_call [] (fun _ => zDf l (by omega) (by omega) (by omega) (by omega) (by omega)) rfl (zK rfl) rfl (nb hn rfl) (fun _ => trivial) rfl rfl (.refl _)) fun _ => ?_
  refine stepW (s_call [] (fun _ => zCW l) rfl (zK rfl) rfl (nb hn rfl) (fun _ => trivial) rfl rfl (.refl _)) fun _ => ?_
  refine sq rfl rfl hn rfl (zG rfl rfl) ?_
  refine sq rfl rfl hn rfl (zZ rfl rfl rfl) ?_
  refine sq rfl rfl hn rfl (zZ rfl rfl rfl) ?_
  refine sq rfl rfl hn rfl (zF rfl rfl) ?_
  refine sq rfl rfl hn rfl (zF rfl rfl) ?_
  refine zE (zA (zC (zB ?_)))
  refine sq rfl rfl hn rfl (ze rfl rfl Tryz.underlying33 rfl sz33 rfl rfl seesF0) ?_
  refine stepW (s_call [] (fun _ => zD2 l) rfl (zK rfl) rfl (nb hn rfl) (fun _ => trivial) rfl rfl (.refl _)) fun _ => ?_
  refine sq rfl rfl hn rfl (zF rfl rfl) ?_
  refine zE (zA (zC (zB ?_)))
  refine sq rfl rfl hn rfl (zF rfl rfl) ?_
  refine zE (zA (zC (zC ?_)))
  refine zy (gh_empty (t := 8) 1 rfl) ?_
  refine zB ?_
  refine sq rfl rfl hn rfl (zG rfl rfl) ?_
  refine sq rfl rfl hn rfl (yF rfl rfl rfl) ?_
  refine zE (zA ?_)
  refine yJ (e := .normal) (ι := Unit) (fun u0 => (7, true, .d (.int .i64 (knownR l).2)) :: (8, true, .d (listsD (knownR l).1)) :: anys [46, 47, 48, 49, 50]) (fun u0 => []) (fun hJ1 => ?_) ?_
  ·
   refine zP rfl (fun hb1 => ?_) (fun hb1 => ?_)
   ·
    have hc : checkL l = 0 := by simpa using hb1
    have L := ko hc
    refine zC (zB ?_)
    refine sq rfl rfl hn rfl (ze rfl rfl Tryz.underlying33 rfl sz33 rfl rfl seesF0) ?_
    refine stepW (s_call [] (fun _ => refHands_ok l L) rfl (zK rfl) rfl (nb hn rfl) (fun _ => trivial) rfl rfl (.refl _)) fun _ => ?_
    refine sq rfl rfl hn rfl (zF rfl rfl) ?_
    refine zE (zA (zC (zB ?_)))
    refine sq rfl rfl hn rfl (zG rfl rfl) ?_
    refine sq rfl rfl hn rfl (zu rfl rfl Tryz.underlying54) ?_
    refine sq rfl rfl hn rfl (yF rfl rfl rfl) ?_
    refine zE (zA ?_)
    refine zP rfl (fun hb2 => ?_) (fun hb2 => ?_)
    ·
     have h0 : handsR l = [] := by simpa using hb2
     have hk := zAP hc h0
     refine zB ?_
     refine sq rfl rfl hn rfl (zF rfl rfl) ?_
     refine zE ?_
     exact aend_join_on hJ1 () ⟨.inl (congrArg (fun z : Int => some (true, TV.d (.int .i64 z))) (congrArg Prod.snd hk).symm), .inl (congrArg (fun z : List (List Int) => some (true, TV.d (listsD z))) (h0.trans (congrArg Prod.fst hk).symm)), zJ _⟩ trivial (by repeat (first | exact kr _ | refine kc rfl ?_)) (by repeat (first | exact kr _ | refine kc rfl ?_))
    ·
     have h0 : handsR l ≠ [] := by simpa using hb2
     have hk := zAQ hc h0
     refine zT ?_
     exact aend_join_on hJ1 () ⟨.inl (congrArg (fun z : Int => some (true, TV.d (.int .i64 z))) (hc.trans (congrArg Prod.snd hk).symm)), .inl (congrArg (fun z : List (List Int) => some (true, TV.d (listsD z))) (congrArg Prod.fst hk).symm), zJ _⟩ trivial (by repeat (first | exact kr _ | refine kc rfl ?_)) (by repeat (first | exact kr _ | refine kc rfl ?_))
   ·
    have hc : checkL l ≠ 0 := by simpa using hb1
    have hk := kh hc
    refine zT ?_
    exact aend_join_on hJ1 () ⟨.inl (congrArg (fun z : Int => some (true, TV.d (.int .i64 z))) (congrArg Prod.snd hk).symm), .inl (congrArg (fun z : List (List Int) => some (true, TV.d (listsD z))) (congrArg Prod.fst hk).symm), zJ _⟩ trivial (by repeat (first | exact kr _ | refine kc rfl ?_)) (by repeat (first | exact kr _ | refine kc rfl ?_))
  ·
   rintro _
   refine zA (zC (zC (zB ?_)))
   refine sq rfl rfl hn rfl (zG rfl rfl) ?_
   refine sq rfl rfl hn rfl (yT rfl rfl rfl) ?_
   refine zE (zA ?_)
   refine zP rfl (fun hb3 => ?_) (fun hb3 => ?_)
   ·
    have hk0 : (knownR l).2 ≠ 0 := by simpa using hb3
    have e1 := buyX_bad hk0
    have e2 := verdX_bad hk0
    refine zC (zB ?_)
    refine sq rfl rfl hn rfl (zG rfl rfl) ?_
    refine sq rfl rfl hn rfl (zG rfl rfl) ?_
    refine sq rfl rfl hn rfl (yF rfl rfl rfl) ?_
    refine sq rfl rfl hn rfl (zG rfl rfl) ?_
    refine stepG [] (zD rfl rfl rfl) rfl (nb hn rfl) (fun hc => trivial) (fun hc => zG rfl rfl) ?_
    refine stepG [] (zD rfl rfl rfl) rfl (nb hn rfl) (fun hc => trivial) (fun hc => zG rfl rfl) ?_
    refine stepG [(57, _), (58, _)] (zD rfl rfl rfl) rfl (nb hn rfl) (fun hc => ⟨⟨_, rfl, hc⟩, ⟨_, rfl, hc⟩, trivial⟩) (fun hc => yF rfl rfl rfl) ?_
    refine sq rfl rfl hn rfl (z8 rfl rfl rfl (by intro hB; first | (rw [hB]; rfl) | (rw [hB, hc]; rfl) | simp_all)) ?_
    refine sq rfl rfl hn rfl (zG rfl rfl) ?_
    refine stepG [] (zD rfl rfl rfl) rfl (nb hn rfl) (fun hc => trivial) (fun hc => za rfl rfl (id := 3) rfl Tryz.underlying62 rfl sz62 rfl rfl sees0) ?_
    refine stepG [] (zD rfl rfl rfl) rfl (nb hn rfl) (fun hc => trivial) (fun hc => zz rfl bt62 rfl rfl rfl rfl rfl) ?_
    refine stepG [(62, _), (63, _)] (zD rfl rfl rfl) rfl (nb hn rfl) (fun hc => ⟨⟨_, rfl, hc⟩, ⟨_, rfl, hc⟩, trivial⟩) (fun hc => zEK rfl rfl rfl) ?_
    refine sq rfl rfl hn rfl (z8 rfl rfl rfl (by intro hB; first | (rw [hB]; rfl) | (rw [hB, hc]; rfl) | simp_all)) ?_
    refine sq rfl rfl hn rfl (zG rfl rfl) ?_
    refine stepG [] (zD rfl rfl rfl) rfl (nb hn rfl) (fun hc => trivial) (fun hc => zG rfl rfl) ?_
    refine stepG [(67, _)] (zD rfl rfl rfl) rfl (nb hn rfl) (fun hc => ⟨⟨_, rfl, hc⟩, trivial⟩) (fun hc => zu rfl rfl Tryz.underlying22) ?_
    refine stepG [(68, _)] (zD rfl rfl rfl) rfl (nb hn rfl) (fun hc => ⟨⟨_, rfl, hc⟩, trivial⟩) (fun hc => yF rfl rfl rfl) ?_
    refine sq rfl rfl hn rfl (z8 rfl rfl rfl (by intro hB; first | (rw [hB]; rfl) | (rw [hB, hc]; rfl) | simp_all)) ?_
    refine sq rfl rfl hn rfl (zG rfl rfl) ?_
    refine stepW (s_call [] (fun hc => zDM) rfl (zD rfl rfl rfl) rfl (nb hn rfl) (fun hc => trivial) rfl rfl (.refl _)) fun _ => ?_
    refine sq rfl rfl hn rfl (z8 rfl rfl rfl (by intro hB; first | (rw [hB]; rfl) | (rw [hB, hc]; rfl) | simp_all)) ?_
    refine sq rfl rfl hn rfl (zF rfl rfl) ?_
    refine zE (zA (zS (zL ?_)))
    refine zi (zk (.inl rfl) hl rfl (.tmp rfl)) ?_
    rw [e1, e2]; simp
   ·
    have hk0 : (knownR l).2 = 0 := by simpa using hb3
    have L := zDd hk0
    have hc := check_of L
    have hne : handsR l ≠ [] := fun e => by (have := zAP hc e; rw [this] at hk0; cases hk0)
    have hk := zAQ hc hne
    have e1 := law_buy L hk hne
    have e2 := verdX_ok hk0
    have ehs : (knownR l).1 = handsR l := congrArg Prod.fst hk
    have h625 := zC1 L
    have hhs := zGA hk
    refine zT (zA (zC (zC (zB ?_))))
    refine sq rfl rfl hn rfl (zG rfl rfl) ?_
    refine sq rfl rfl hn rfl (yT rfl rfl rfl) ?_
    refine sq rfl rfl hn rfl (zG rfl rfl) ?_
    refine stepG [] (zD rfl rfl rfl) rfl (nb hn rfl) (fun hc => trivial) (fun hc => zG rfl rfl) ?_
    refine stepG [(77, _)] (zD rfl rfl rfl) rfl (nb hn rfl) (fun hc => ⟨⟨_, rfl, hc⟩, trivial⟩) (fun hc => yT rfl rfl rfl) ?_
    refine sq rfl rfl hn rfl (q_or rfl rfl rfl (by intro hB; first | (rw [hB]; rfl) | (rw [hB, hc]; rfl) | simp_all)) ?_
    refine sq rfl rfl hn rfl (zG rfl rfl) ?_
    refine stepG [] (zD rfl rfl rfl) rfl (nb hn rfl) (fun hc => trivial) (fun hc => zG rfl rfl) ?_
    refine stepG [(81, _)] (zD rfl rfl rfl) rfl (nb hn rfl) (fun hc => ⟨⟨_, rfl, hc⟩, trivial⟩) (fun hc => zu rfl rfl Tryz.underlying22) ?_
    refine stepG [] (zD rfl rfl rfl) rfl (nb hn rfl) (fun hc => trivial) (fun hc => zN rfl rfl Tryz.underlying33 rfl sz31 rfl) ?_
    refine stepG [(83, _)] (zD rfl rfl rfl) rfl (nb hn rfl) (fun hc => ⟨⟨_, rfl, hc⟩, trivial⟩) (fun hc => zW rfl rfl Tryz.underlying31 rfl seesF0) ?_
    refine stepG [(84, _)] (zD rfl rfl rfl) rfl (nb hn rfl) (fun hc => ⟨⟨_, rfl, hc⟩, trivial⟩) (fun hc => zu rfl rfl Tryz.underlying31) ?_
    refine stepG [(82, _), (85, _)] (zD rfl rfl rfl) rfl (nb hn rfl) (fun hc => ⟨⟨_, rfl, hc⟩, ⟨_, rfl, hc⟩, trivial⟩) (fun hc => yT rfl rfl rfl) ?_
    refine sq rfl rfl hn rfl (q_or rfl rfl rfl (by intro hB; first | (rw [hB]; rfl) | (rw [hB, hc]; rfl) | simp_all)) ?_
    refine zE (zA ?_)
    refine zP rfl (fun hb4 => ?_) (fun hb4 => ?_)
    ·
     rw [e1, e2] at hb4; simp [zAO] at hb4
    ·
     refine zT (zA (zC (zB ?_)))
     refine sq rfl rfl hn rfl (zF rfl rfl) ?_
     refine sq rfl rfl hn rfl (zF rfl rfl) ?_
     refine zE (zA (zC (zC (zB ?_))))
     refine sq rfl rfl hn rfl (zF rfl rfl) ?_
     refine zE (zA (zQ ?_))
     refine awp_loop_on (ι := {x : Nat // x ≤ (handsR l).length}) (fun x => (9, true, .d (.int .i64 (lawTo l (handsR l) x.1).1)) :: (10, true, .d (.int .i64 (lawTo l (handsR l) x.1).2)) :: (11, true, .d (.int .i64 (x.1 : Nat))) :: anys [88, 89, 90, 91, 95, 96, 97, 98, 99, 100, 94, 101, 102, 12, 13, 103, 104, 105, 106, 107, 14, 108, 109, 110, 111, 112, 113, 92, 93]) (fun x => []) (fun x => (handsR l).length - x.1) ⟨0, Nat.zero_le _⟩ ⟨.inl rfl, .inl rfl, .inl rfl, zJ _⟩ trivial ?_
     rintro ⟨i, hi⟩
     dsimp only
     refine zC (zC (zB ?_))
     refine sq rfl rfl hn rfl (zG rfl rfl) ?_
     refine sq rfl rfl hn rfl (zG rfl rfl) ?_
     refine sq rfl rfl hn rfl (zu rfl rfl Tryz.underlying54) ?_
     refine sq rfl rfl hn rfl (yA rfl rfl rfl) ?_
     refine zE (zA ?_)
     refine zP rfl (fun hb5 => ?_) (fun hb5 => ?_)
     ·
      have hil : i < (handsR l).length := by (have h7 := of_decide_eq_true hb5; rw [ehs, List.length_map] at h7; omega)
      obtain ⟨h, hh⟩ := zw hil
      have hh1 : (knownR l).1[i]? = some h := by rw [ehs]; exact hh
      have hho := hhs h (List.mem_of_getElem? hh)
      have H := L.hok hho.2
      obtain ⟨b1, b2, b3, b4⟩ := zDi H
      have hbd := zDv H.hq6 b1
      have hbl := zDL b1
      have hl6 := H.hl6
      have hbo := zDc H
      have hsub : IntKind.i64.wrap (owedI l.dues - sumI (bestR l (houN l) h (-1)).1) = boughtR l h := by (rw [show owedI l.dues - sumI (bestR l (houN l) h (-1)).1 = boughtR l h from b3.symm]; exact i64w (by omega) rfl)
      refine zT (zA (zC (zQ (zC ?_))))
      refine z7 (W := fun b => True) fmo ?_
      refine d1q (i := 0) rfl (by kernel_rfl) (fun _ _ _ _ h => h) rfl rfl hn rfl (ze rfl rfl Tryz.underlying33 rfl sz33 rfl rfl seesFA) ?_
      refine d1q (i := 1) rfl (by kernel_rfl) (fun _ _ _ _ h => h) rfl rfl hn rfl (zG rfl rfl) ?_
      refine d1q (i := 2) rfl (by kernel_rfl) (fun _ _ _ _ h => h) rfl rfl hn rfl (zG rfl rfl) ?_
      refine d1q (i := 3) rfl (by kernel_rfl) (fun _ _ _ _ h => h) rfl rfl hn rfl (q_index (i := i) rfl rfl rfl Tryz.underlying54 sz22 rfl (mget hh1)) ?_
      refine d1q (i := 4) rfl (by kernel_rfl) (fun _ _ _ _ h => h) rfl rfl hn rfl (zW rfl rfl Tryz.underlying22 rfl seesFA) ?_
      refine zM ?_
      refine zf (i := 5) (by kernel_rfl) rfl (s_call [] (fun _ => zDQ l (houN l) h H hho.1 (-1) (by omega)) rfl (zK rfl) rfl (nb hn rfl) (fun _ => trivial) rfl rfl (.refl _)) fun _ => ?_
      refine d2_of_d1 ?_
      refine d1q (i := 6) rfl (by kernel_rfl) (fun _ _ _ _ h => h) rfl rfl hn rfl (zG rfl rfl) ?_
      refine d1q (i := 7) rfl (by kernel_rfl) (fun _ _ _ _ h => h) rfl rfl hn rfl (zZ rfl rfl rfl) ?_
      refine d1q (i := 8) rfl (by kernel_rfl) (fun _ _ _ _ h => h) rfl rfl hn rfl (zZ rfl rfl rfl) ?_
      refine d1q (i := 9) rfl (by kernel_rfl) (fun _ _ _ _ h => h) rfl rfl hn rfl (zF rfl rfl) ?_
      refine d1q (i := 10) rfl (by kernel_rfl) (fun _ _ _ _ h => h) rfl rfl hn rfl (zF rfl rfl) ?_
      refine zM ?_
      refine zo (by kernel_rfl) ?_
      refine zA (zC (zB ?_))
      refine sq rfl rfl hn rfl (ze rfl rfl Tryz.underlying33 rfl sz33 rfl rfl seesF0) ?_
      refine stepW (s_call [] (fun _ => Owed_ok l (dues_bd3 L) (by omega)) rfl (zK rfl) rfl (nb hn rfl) (fun _ => trivial) rfl rfl (.refl _)) fun _ => ?_
      refine sq rfl rfl hn rfl (zG rfl rfl) ?_
      refine stepW (s_call [] (fun _ => zFV (bestR l (houN l) h (-1)).1 (zF2 hbd) (by omega)) rfl (zK rfl) rfl (nb hn rfl) (fun _ => trivial) rfl rfl (.refl _)) fun _ => ?_
      refine sq rfl rfl hn rfl (ye rfl rfl rfl (r := boughtR l h) hsub) ?_
      refine sq rfl rfl hn rfl (zF rfl rfl) ?_
      refine zE (zA (zB ?_))
      refine sq rfl rfl hn rfl (zG rfl rfl) ?_
      refine sq rfl rfl hn rfl (zG rfl rfl) ?_
      refine sq rfl rfl hn rfl (zGE rfl rfl rfl) ?_
      refine sq rfl rfl hn rfl (zG rfl rfl) ?_
      refine sq rfl rfl hn rfl (zG rfl rfl) ?_
      refine sq rfl rfl hn rfl (zBn rfl rfl rfl) ?_
      refine sq rfl rfl hn rfl (zF rfl rfl) ?_
      refine sq rfl rfl hn rfl (zF rfl rfl) ?_
      refine zE (zX (zA (zB ?_)))
      refine sq rfl rfl hn rfl (zG rfl rfl) ?_
      refine sq rfl rfl hn rfl (zp rfl rfl rfl (r := ((i + 1 : Nat) : Int)) (i64w (by omega) (by omega))) ?_
      refine sq rfl rfl hn rfl (zF rfl rfl) ?_
      refine zE ?_
      exact zU ⟨i + 1, by omega⟩ ⟨.inl (congrArg (fun z : Int => some (true, TV.d (.int .i64 z))) (congrArg Prod.fst (zDN hh)).symm), .inl (congrArg (fun z : Int => some (true, TV.d (.int .i64 z))) (congrArg Prod.snd (zDN hh)).symm), .inl rfl, zJ _⟩ trivial (by simp only; omega) (by repeat (first | exact kr _ | refine kc rfl ?_)) (by repeat (first | exact kr _ | refine kc rfl ?_))
     ·
      obtain rfl : i = (handsR l).length := by (have h7 := of_decide_eq_false hb5; rw [ehs, List.length_map] at h7; omega)
      refine zh (zI (zI (zR (zA (zC (zC (zB ?_)))))))
      refine sq rfl rfl hn rfl (zF rfl rfl) ?_
      refine zE (zA (zQ ?_))
      refine awp_loop_on (ι := {x : Nat // x ≤ l.dues.length}) (fun x => (15, true, .d (.int .i64 (x.1 : Nat))) :: anys [114, 115, 116, 117, 120, 121, 122, 123, 124, 125, 126, 127, 128, 118, 119]) (fun x => []) (fun x => l.dues.length - x.1) ⟨0, Nat.zero_le _⟩ ⟨.inl rfl, zJ _⟩ trivial ?_
      rintro ⟨j, hj⟩
      dsimp only
      refine zC (zC (zB ?_))
      refine sq rfl rfl hn rfl (zG rfl rfl) ?_
      refine sq rfl rfl hn rfl (zG rfl rfl) ?_
      refine sq rfl rfl hn rfl (zu rfl rfl Tryz.underlying22) ?_
      refine sq rfl rfl hn rfl (yA rfl rfl rfl) ?_
      refine zE (zA ?_)
      refine zP rfl (fun hb6 => ?_) (fun hb6 => ?_)
      ·
       have hjl : j < l.dues.length := by (have h7 := of_decide_eq_true hb6; rw [e2, List.length_map, zAO] at h7; omega)
       have hv : (verdX l).1[j]? = some (verdB ((knownR l).1.map (madeB l j))) := by rw [e2]; exact verdTo_get hjl
       refine zT (zA (zC (zQ (zC ?_))))
       refine z7 (W := fun b => True) fmo ?_
       refine d1q (i := 0) rfl (by kernel_rfl) (fun _ _ _ _ h => h) rfl rfl hn rfl (zG rfl rfl) ?_
       refine d1q (i := 1) rfl (by kernel_rfl) (fun _ _ _ _ h => h) rfl rfl hn rfl (zG rfl rfl) ?_
       refine d1q (i := 2) rfl (by kernel_rfl) (fun _ _ _ _ h => h) rfl rfl hn rfl (q_index (i := j) rfl rfl rfl Tryz.underlying22 sz3 rfl (mget hv)) ?_
       refine d1q (i := 3) rfl (by kernel_rfl) (fun _ _ _ _ h => h) rfl rfl hn rfl (zW rfl rfl Tryz.underlying3 rfl seesFA) ?_
       refine d1q (i := 4) rfl (by kernel_rfl) (fun _ _ _ _ h => h) rfl rfl hn rfl (ze rfl rfl Tryz.underlying33 rfl sz33 rfl rfl seesFA) ?_
       refine d1q (i := 5) rfl (by kernel_rfl) (fun _ _ _ _ h => h) rfl rfl hn rfl (zG rfl rfl) ?_
       refine d1q (i := 6) rfl (by kernel_rfl) (fun _ _ _ _ h => h) rfl rfl hn rfl (zG rfl rfl) ?_
       refine zM ?_
       refine zf (i := 7) (by kernel_rfl) rfl (s_call [] (fun _ => refVerdict_ok l L (knownR l).1 (by rw [ehs]; omega) (by rw [ehs]; exact hhs) j hjl) rfl (zK rfl) rfl (nb hn rfl) (fun _ => trivial) rfl rfl (.refl _)) fun _ => ?_
       refine d2_of_d1 ?_
       refine d1q (i := 8) rfl (by kernel_rfl) (fun _ _ _ _ h => h) rfl rfl hn rfl (yT rfl rfl rfl) ?_
       refine zM ?_
       refine zo (by kernel_rfl) ?_
       refine zA ?_
       refine zP rfl (fun hb7 => ?_) (fun hb7 => ?_)
       ·
        simp at hb7
       ·
        refine zT (zX (zA (zB ?_)))
        refine sq rfl rfl hn rfl (zG rfl rfl) ?_
        refine sq rfl rfl hn rfl (zp rfl rfl rfl (r := ((j + 1 : Nat) : Int)) (i64w (by omega) (by omega))) ?_
        refine sq rfl rfl hn rfl (zF rfl rfl) ?_
        refine zE ?_
        exact zU ⟨j + 1, by omega⟩ ⟨.inl rfl, zJ _⟩ trivial (by simp only; omega) (by repeat (first | exact kr _ | refine kc rfl ?_)) (by repeat (first | exact kr _ | refine kc rfl ?_))
      ·
       obtain rfl : j = l.dues.length := by (have h7 := of_decide_eq_false hb6; rw [e2, List.length_map, zAO] at h7; omega)
       refine zh (zI (zI (zR (zA (zC (zB ?_))))))
       refine sq rfl rfl hn rfl (za rfl rfl (id := 3) rfl Tryz.underlying62 rfl sz62 rfl rfl sees0) ?_
       refine sq rfl rfl hn rfl (zG rfl rfl) ?_
       refine sq rfl rfl hn rfl (zG rfl rfl) ?_
       refine sq rfl rfl hn rfl (zz rfl bt62 rfl rfl rfl rfl rfl) ?_
       refine sq rfl rfl hn rfl (zEK rfl rfl rfl) ?_
       refine sq rfl rfl hn rfl (zG rfl rfl) ?_
       refine stepW (s_call [] (fun hc => zDM) rfl (zD rfl rfl rfl) rfl (nb hn rfl) (fun hc => trivial) rfl rfl (.refl _)) fun _ => ?_
       refine sq rfl rfl hn rfl (z8 rfl rfl rfl (by intro hB; first | (rw [hB]; rfl) | (rw [hB, hc]; rfl) | simp_all)) ?_
       refine sq rfl rfl hn rfl (zF rfl rfl) ?_
       refine zE (zA (zS ?_))
       refine zi (zk (.inl rfl) hl rfl (.tmp rfl)) ?_
       rw [e1]; simp
end Go.Proofs.YtaokpncjemkhcaaGreat
namespace Go.Proofs.YtaokpncjemkhcaaGreat
open Go.ChangeShapes Go.WideShapes Go.ChangeAt Go.RowKit
set_option linter.all false
theorem ShortBuyIns_pure (xs : List D) (h : Sat [SLdg] xs) : PureAt Tryz.prog 5 xs (.bool true) := by
  obtain ⟨_, _, rfl, ⟨a1, rfl⟩, rfl⟩ := h
  exact ShortBuyIns_ok a1
set_option maxRecDepth 100000 in
theorem shortBuyIns_lifted (os : Os) (started : os.Started) (H : Type) (enc : TypeId × Value → H) :
    ReturnsInHanded {} Tryz.checked os 5 .any (Rows.shortBuyInsSpec.pre6 enc Tryz.prog Tryz.f5 Rows.shortBuyInsRow.domain false) (Rows.shortBuyInsSpec.post enc Tryz.prog Tryz.f5 false true false false) := by
  refine returnsInHanded_of_change_sized (C := Tryz.checked) own started (by kernel_rfl) Tryz.func5
    (ChangeSpec.witness6 (enc := enc) (C := Tryz.checked) false ⟨#[], #[.agg #[.int .i64 0, .slice none 0 0, .slice none 0 0, .slice none 0 0, .int .i64 0, .slice none 0 0, .slice none 0 0]], []⟩ 8 (by kernel_rfl) (by kernel_rfl) (by kernel_rfl) (by kernel_rfl)) ?_
  intro W base args ds gs before hval hW _ hz _
  exact law_contract (ts := [33]) (Ss := [SLdg]) laidOut (by rw [Tryz.params5]) (by kernel_rfl) (by kernel_rfl) Tryz.underlying4 rfl rfl
    (fun ds h => by match ds, h with | [d1], _ => rfl) ⟨pLdg, trivial⟩ ShortBuyIns_pure W base args ds gs before hval hW hz (fun g hg => by cases hg)
theorem shortBuyIns_holds : Rows.ShortBuyInsSaid :=
  OpenClaim.holds_of_wide 5 Tryz.f5 rfl rfl rfl rfl rfl rfl rfl ⟨rfl, rfl, rfl, rfl, rfl⟩ rfl rfl rfl rfl rfl (by kernel_rfl) Tryz.func5 (by kernel_rfl)
    (of_decide_eq_true (by kernel_rfl)) (by unfold Func.isWrapper; first | (rw [if_pos (by decide +kernel)]; kernel_rfl) | (rw [if_neg (by decide +kernel)]; exact ⟨rfl, rfl⟩))
    (fun os started H enc _ => shortBuyIns_lifted os started H enc)
end Go.Proofs.YtaokpncjemkhcaaGreat
