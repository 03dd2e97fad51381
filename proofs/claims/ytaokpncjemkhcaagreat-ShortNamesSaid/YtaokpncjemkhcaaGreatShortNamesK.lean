/-
  A part of the proof that contangolaw.ShortNames returns true: what the last text needs, and no more. No condition: no statement of the seat is proved here.
-/
import Derived.Laws.StructEq
import Derived.Test.YtaokpncjemkhcaaGreatChecked
import Derived.Test.YtaokpncjemkhcaaGreatShortNamesJ
namespace Go.Proofs.YtaokpncjemkhcaaGreat
set_option linter.all false
/-- There is a truth. -/
def hasT (r : Reg) : Prop := goesB r 0 0 0 = true
theorem expl_full {r : Reg} (v : Valid r) (x : ExplX r) : (hasT r ∧ x.1.2 = 0 ∧ ∃ ds, Truth r x.1.1 ds) ∨ (¬ hasT r ∧ x.1.2 = 9 ∧ x.1.1 = []) := by
  have h0 := zBQ v
  rcases x.2 with ⟨k, _⟩ | ⟨_, k, e⟩ | ⟨_, k, h, _, n, m, hp⟩
  · exact (k h0).elim
  · right
    rw [e]
    refine ⟨fun h => ?_, rfl, rfl⟩
    have h' : goesB r 0 0 0 = true := h
    rw [k] at h'
    cases h'
  · exact .inl ⟨k, h, ke v hp⟩
theorem expl_err {r : Reg} (v : Valid r) (x : ExplX r) : (x.1.2 = 0 ↔ hasT r) ∧ (x.1.2 = 9 ↔ ¬ hasT r) ∧ (x.1.2 = 0 ∨ x.1.2 = 9) := by
  rcases expl_full v x with ⟨h, e, _⟩ | ⟨h, e, _⟩
  · exact ⟨⟨fun _ => h, fun _ => e⟩, ⟨fun k => (by rw [e] at k; cases k), fun k => (k h).elim⟩, .inl e⟩
  · exact ⟨⟨fun k => (by rw [e] at k; cases k), fun k => (h k).elim⟩, ⟨fun _ => h, fun _ => e⟩, .inr e⟩
end Go.Proofs.YtaokpncjemkhcaaGreat
namespace Go.Proofs.YtaokpncjemkhcaaGreat
set_option linter.all false
/-- What can have happened at the end of a day. -/
def Eve (r : Reg) (N m : Nat) : Prop := Rch r N N r.entries.length m
/-- The first register allows no more on a day than the second. -/
structure Nar (x r : Reg) (N : Nat) : Prop where
  vx : Valid x
  v : Valid r
  hx : hasT x
  h : hasT r
  eve : ∀ m, Eve x N m → Eve r N m
  pl : ∀ m, placesA x m = placesA r m
  op : ∀ m a b, openN x m a b = openN r m a b
  st : x.start = r.start
  ho : x.houses = r.houses
end Go.Proofs.YtaokpncjemkhcaaGreat
namespace Go.Proofs.YtaokpncjemkhcaaGreat
set_option linter.all false
theorem zD2 {r : Reg} {si : List Sight5} {n : Int} : ∀ {ts : List Int} {k m : Nat}, dayF ⟨r.houses, r.start, r.entries, si⟩ n k ts m = dayF r n k ts m
  | [], _, _ => rfl
  | t :: ts, k, m => by
    simp only [dayF]
    rw [zD2, zD2 (m := m ||| 2 ^ k)]
    rfl
theorem zDF {r : Reg} {si : List Sight5} {t : List Int} : ∀ {c n m : Nat}, playF ⟨r.houses, r.start, r.entries, si⟩ t c n m = playF r t c n m
  | 0, _, _ => rfl
  | c + 1, n, m => by
    rw [playF, playF, zD2]
    cases dayF r (n : Int) 0 t m with
    | none => rfl
    | some d => simp only; rw [zDF]
theorem zDC {r : Reg} {s : Sight5} : ∀ {l : List Nat} {n : Nat}, seenAll (seeingR r s) n l = true ↔ seenAll r n l = true ∧ ∀ j x, l[j]? = some x → seenB ((n + j : Nat) : Int) (placesA r x) s = true
  | [], n => by simp [seenAll]
  | d :: l, n => by
    simp only [seenAll, Bool.and_eq_true, zDC (l := l) (n := n + 1)]
    have hp : placesA (seeingR r s) d = placesA r d := rfl
    rw [hp, show (seeingR r s).sights = r.sights ++ [s] from rfl, List.all_append, Bool.and_eq_true]
    simp only [List.all_cons, List.all_nil, Bool.and_true]
    constructor
    · rintro ⟨⟨h1, h2⟩, h3, h4⟩
      refine ⟨⟨h1, h3⟩, fun j x hj => ?_⟩
      cases j with
      | zero => simp only [List.getElem?_cons_zero, Option.some.injEq] at hj; subst hj; exact h2
      | succ j => have := h4 j x (by simpa using hj); rwa [show n + 1 + j = n + (j + 1) by omega] at this
    · rintro ⟨⟨h1, h3⟩, h4⟩
      refine ⟨⟨h1, h4 0 d rfl⟩, h3, fun j x hj => ?_⟩
      have := h4 (j + 1) x (by simpa using hj)
      rwa [show n + (j + 1) = n + 1 + j by omega] at this
theorem see_truth {r : Reg} {s : Sight5} {t : List Int} {ds : List Nat} : Truth (seeingR r s) t ds ↔ Truth r t ds ∧ ∀ (j x : Nat), ds[j]? = some x → seenB ((j : Nat) : Int) (placesA r x) s = true := by
  constructor
  · intro T
    obtain ⟨h1, h2⟩ := zDC.1 T.seen
    refine ⟨⟨T.dated, by have := T.play; unfold playDays at this ⊢; rwa [show seeingR r s = ⟨r.houses, r.start, r.entries, r.sights ++ [s]⟩ from rfl, zDF] at this, h1⟩, fun j x hj => by have := h2 j x hj; rwa [Nat.zero_add] at this⟩
  · rintro ⟨T, h⟩
    refine ⟨T.dated, by have := T.play; unfold playDays at this ⊢; rw [show seeingR r s = ⟨r.houses, r.start, r.entries, r.sights ++ [s]⟩ from rfl, zDF]; exact this, zDC.2 ⟨T.seen, fun j x hj => by rw [Nat.zero_add]; exact h j x hj⟩⟩
end Go.Proofs.YtaokpncjemkhcaaGreat
namespace Go.Proofs.YtaokpncjemkhcaaGreat
open Go.RowKit
set_option maxRecDepth 20000
set_option linter.all false
theorem sz50 : Sz Tryz.prog 50 7 := (by kernel_rfl : (Tryz.prog.info? 50).map (·.size) = some 7)
theorem sz88 : Sz Tryz.prog 88 3 := (by kernel_rfl : (Tryz.prog.info? 88).map (·.size) = some 3)
theorem kO (n lo hi : Int) : PureAt Tryz.prog 69 [.int .i64 n, .int .i64 lo, .int .i64 hi] (.bool (decide (lo ≤ n) && decide (n ≤ hi))) := by
 refine PureAt.of_awp Tryz.func69 rfl (by kernel_rfl) (Nat.le_of_ble_eq_true rfl) fun Γ hn hl => ?_
 refine zC (zB ?_)
 refine sq rfl rfl hn rfl (zF rfl rfl) ?_
 refine zE (zA (zC (zB ?_)))
 refine sq rfl rfl hn rfl (zG rfl rfl) ?_
 refine sq rfl rfl hn rfl (zG rfl rfl) ?_
 refine sq rfl rfl hn rfl (zBp rfl rfl rfl) ?_
 refine sq rfl rfl hn rfl (zG rfl rfl) ?_
 refine stepG [] (zD rfl rfl rfl) rfl (nb hn rfl) (fun hc => trivial) (fun hc => zG rfl rfl) ?_
 refine stepG [] (zD rfl rfl rfl) rfl (nb hn rfl) (fun hc => trivial) (fun hc => zG rfl rfl) ?_
 refine stepG [(11, _), (12, _)] (zD rfl rfl rfl) rfl (nb hn rfl) (fun hc => ⟨⟨_, rfl, hc⟩, ⟨_, rfl, hc⟩, trivial⟩) (fun hc => zBp rfl rfl rfl) ?_
 refine sq rfl rfl hn rfl (zy rfl rfl rfl (by intro hB; first | (rw [hB]; rfl) | (rw [hB, hc]; rfl) | simp_all)) ?_
 refine sq rfl rfl hn rfl (zF rfl rfl) ?_
 refine zE (zA (zO ?_))
 exact zt (.inl rfl) hl rfl (.tmp rfl)
theorem zCb (l : Ldg) (n : Int) : PureAt Tryz.prog 98 [ldgD l, .int .i64 n] (.bool (houseB l.reg n)) := by
 refine PureAt.of_awp Tryz.func98 rfl (by kernel_rfl) (Nat.le_of_ble_eq_true rfl) fun Γ hn hl => ?_
 refine zC (zB ?_)
 refine stepW (zr 2 rfl rfl rfl (nb hn rfl) rfl rfl) fun b2 => ?_
 refine sq rfl rfl hn rfl (zF rfl rfl) ?_
 refine zE (zA (zC (zB ?_)))
 refine sq rfl rfl hn rfl (zG rfl rfl) ?_
 refine sq rfl rfl hn rfl (zH rfl rfl Tryz.underlying50 rfl sz44) ?_
 refine sq rfl rfl hn rfl (zH rfl rfl Tryz.underlying44 rfl sz3) ?_
 refine sq rfl rfl hn rfl (zQ rfl rfl (id := 2) rfl Tryz.underlying3 rfl rfl sees0) ?_
 refine sq rfl rfl hn rfl (zAl rfl rfl rfl rfl) ?_
 refine stepW (s_call [] (fun _ => kO _ _ _) rfl (zI rfl) rfl (nb hn rfl) (fun _ => trivial) rfl rfl (.refl _)) fun _ => ?_
 refine sq rfl rfl hn rfl (zF rfl rfl) ?_
 refine zE (zA (zO ?_))
 exact zt (.inl rfl) hl rfl (.tmp rfl)
theorem due8_ok (l : Ldg) (q : Due8) : PureAt Tryz.prog 68 [ldgD l, .agg (dueE q)] (.bool (dueB l q)) := by
 refine PureAt.of_awp Tryz.func68 rfl (by kernel_rfl) (Nat.le_of_ble_eq_true rfl) fun Γ hn hl => ?_
 refine zC (zB ?_)
 refine stepW (zr 2 rfl rfl rfl (nb hn rfl) rfl rfl) fun b2 => ?_
 refine stepW (zr 3 rfl rfl rfl (nb hn rfl) rfl rfl) fun b3 => ?_
 refine sq rfl rfl hn rfl (zF rfl rfl) ?_
 refine zE (zA (zC (zB ?_)))
 refine sq rfl rfl hn rfl (zY rfl rfl (id := 2) rfl Tryz.underlying50 rfl sz50 rfl rfl sees0) ?_
 refine sq rfl rfl hn rfl (zH rfl rfl Tryz.underlying88 rfl sz3) ?_
 refine sq rfl rfl hn rfl (zQ rfl rfl (id := 3) rfl Tryz.underlying3 rfl rfl sees0) ?_
 refine stepW (s_call [] (fun _ => zCb _ _) rfl (zI rfl) rfl (nb hn rfl) (fun _ => trivial) rfl rfl (.refl _)) fun _ => ?_
 refine sq rfl rfl hn rfl (zG rfl rfl) ?_
 refine stepG [] (zD rfl rfl rfl) rfl (nb hn rfl) (fun hc => trivial) (fun hc => zY rfl rfl (id := 2) rfl Tryz.underlying50 rfl sz50 rfl rfl sees0) ?_
 refine stepG [] (zD rfl rfl rfl) rfl (nb hn rfl) (fun hc => trivial) (fun hc => zH rfl rfl Tryz.underlying88 rfl sz3) ?_
 refine stepG [(11, _)] (zD rfl rfl rfl) rfl (nb hn rfl) (fun hc => ⟨⟨_, rfl, hc⟩, trivial⟩) (fun hc => zQ rfl rfl (id := 3) rfl Tryz.underlying3 rfl rfl sees0) ?_
 refine stepW (s_call [(10, _), (12, _)] (fun hc => zCb _ _) rfl (zD rfl rfl rfl) rfl (nb hn rfl) (fun hc => ⟨⟨_, rfl, hc⟩, ⟨_, rfl, hc⟩, trivial⟩) rfl rfl (.refl _)) fun _ => ?_
 refine sq rfl rfl hn rfl (zy rfl rfl rfl (by intro hB; first | (rw [hB]; rfl) | (rw [hB, hc]; rfl) | simp_all)) ?_
 refine sq rfl rfl hn rfl (zG rfl rfl) ?_
 refine stepG [] (zD rfl rfl rfl) rfl (nb hn rfl) (fun hc => trivial) (fun hc => zH rfl rfl Tryz.underlying88 rfl sz3) ?_
 refine stepG [(16, _)] (zD rfl rfl rfl) rfl (nb hn rfl) (fun hc => ⟨⟨_, rfl, hc⟩, trivial⟩) (fun hc => zQ rfl rfl (id := 3) rfl Tryz.underlying3 rfl rfl sees0) ?_
 refine stepG [] (zD rfl rfl rfl) rfl (nb hn rfl) (fun hc => trivial) (fun hc => zH rfl rfl Tryz.underlying88 rfl sz3) ?_
 refine stepG [(18, _)] (zD rfl rfl rfl) rfl (nb hn rfl) (fun hc => ⟨⟨_, rfl, hc⟩, trivial⟩) (fun hc => zQ rfl rfl (id := 3) rfl Tryz.underlying3 rfl rfl sees0) ?_
 refine stepG [(17, _), (19, _)] (zD rfl rfl rfl) rfl (nb hn rfl) (fun hc => ⟨⟨_, rfl, hc⟩, ⟨_, rfl, hc⟩, trivial⟩) (fun hc => yX rfl rfl rfl) ?_
 refine sq rfl rfl hn rfl (zy rfl rfl rfl (by intro hB; first | (rw [hB]; rfl) | (rw [hB, hc]; rfl) | simp_all)) ?_
 refine sq rfl rfl hn rfl (zG rfl rfl) ?_
 refine stepG [] (zD rfl rfl rfl) rfl (nb hn rfl) (fun hc => trivial) (fun hc => zH rfl rfl Tryz.underlying88 rfl sz3) ?_
 refine stepG [(23, _)] (zD rfl rfl rfl) rfl (nb hn rfl) (fun hc => ⟨⟨_, rfl, hc⟩, trivial⟩) (fun hc => zQ rfl rfl (id := 3) rfl Tryz.underlying3 rfl rfl sees0) ?_
 refine stepW (s_call [(24, _)] (fun hc => kO _ _ _) rfl (zD rfl rfl rfl) rfl (nb hn rfl) (fun hc => ⟨⟨_, rfl, hc⟩, trivial⟩) rfl rfl (.refl _)) fun _ => ?_
 refine sq rfl rfl hn rfl (zy rfl rfl rfl (by intro hB; first | (rw [hB]; rfl) | (rw [hB, hc]; rfl) | simp_all)) ?_
 refine sq rfl rfl hn rfl (zF rfl rfl) ?_
 refine zE (zA (zO ?_))
 refine zp (zt (.inl rfl) hl rfl (.tmp rfl)) ?_
 simp [dueB, Bool.and_assoc]
theorem IndexFunc_due (l : List Due8) (p : Due8 → Bool) (g : FuncId) (fi ca : List D) (hp : ∀ x ∈ l, PureAt Tryz.prog g (fi ++ [.agg (dueE x)] ++ ca) (.bool (p x))) : PureAt Tryz.prog 132 [duesD l, .fn (.func g) fi ca] (.int .i64 (idxOf p l)) := by
 refine PureAt.of_awp' Tryz.func132 rfl (by kernel_rfl) rfl fun hlen Γ hn hl => ?_
 have hl5 := hlen.1; simp only [List.length_map] at hl5
 refine zC (zB ?_)
 refine sq rfl rfl hn rfl (zF rfl rfl) ?_
 refine zE (zA (zC (zC (zB ?_))))
 refine sq rfl rfl hn rfl (zG rfl rfl) ?_
 refine sq rfl rfl hn rfl (z7 rfl rfl Tryz.underlying48) ?_
 refine sq rfl rfl hn rfl (zG rfl rfl) ?_
 refine zE (zA (zV ?_))
 refine awp_loop_on (ι := { i : Nat // i ≤ l.length ∧ (l.take i).all (fun x => !p x) = true }) (fun i => (8, true, .d (.int .i64 (i.1 : Int))) :: anys [9, 10, 5, 11, 12, 13, 14, 15, 16, 18]) (fun i => []) (fun i => l.length - i.1) ⟨0, by simp⟩ ⟨.inl rfl, zJ _⟩ trivial ?_
 rintro ⟨i, hi, hall⟩
 dsimp only
 refine zC (zB ?_)
 refine sq rfl rfl hn rfl (yJ rfl rfl rfl) ?_
 refine zE (zA (zC ?_))
 refine zS rfl (fun hb0 => ?_) (fun hb0 => ?_)
 ·
  try simp only [decide_eq_true_eq, decide_eq_false_iff_not, Bool.and_eq_true, Bool.or_eq_true, Bool.and_eq_false_iff, Bool.or_eq_false_iff, Bool.not_eq_true', Bool.not_eq_false', beq_iff_eq, bne_iff_ne, ne_eq, beq_eq_false_iff_ne, bne_eq_false_iff_eq, Int.not_lt, Int.not_le] at hb0
  have hlt : i < l.length := by simpa using hb0
  obtain ⟨x, hx⟩ := z2 hlt
  refine zU (zA (zC (zV (zC (zB ?_)))))
  refine sq rfl rfl hn rfl (zG rfl rfl) ?_
  refine sq rfl rfl hn rfl (zF rfl rfl) ?_
  refine zE (zA (zC (zB ?_)))
  refine sq rfl rfl hn rfl (zG rfl rfl) ?_
  refine sq rfl rfl hn rfl (zG rfl rfl) ?_
  refine sq rfl rfl hn rfl (zG rfl rfl) ?_
  refine sq rfl rfl hn rfl (q_index rfl rfl rfl Tryz.underlying48 sz88 rfl (mget hx)) ?_
  refine sq rfl rfl hn rfl (ze rfl rfl Tryz.underlying88 rfl sz88 rfl rfl seesF0) ?_
  refine stepW (s_call [] (fun _ => hp x (List.mem_of_getElem? hx)) rfl (zI rfl) rfl (nb hn rfl) (fun _ => trivial) rfl rfl (.refl _)) fun _ => ?_
  refine zE (zA ?_)
  refine zS rfl (fun hb1 => ?_) (fun hb1 => ?_)
  ·
   try simp only [decide_eq_true_eq, decide_eq_false_iff_not, Bool.and_eq_true, Bool.or_eq_true, Bool.and_eq_false_iff, Bool.or_eq_false_iff, Bool.not_eq_true', Bool.not_eq_false', beq_iff_eq, bne_iff_ne, ne_eq, beq_eq_false_iff_ne, bne_eq_false_iff_eq, Int.not_lt, Int.not_le] at hb1
   refine zC (zB ?_)
   refine sq rfl rfl hn rfl (zG rfl rfl) ?_
   refine sq rfl rfl hn rfl (zF rfl rfl) ?_
   refine zE (zA (zO (zf (zL (zL (zf (zL ?_)))))))
   refine zp (zt (.inl rfl) hl rfl (.tmp rfl)) ?_
   rw [yu hx hall (by simpa using hb1)]
  ·
   try simp only [decide_eq_true_eq, decide_eq_false_iff_not, Bool.and_eq_true, Bool.or_eq_true, Bool.and_eq_false_iff, Bool.or_eq_false_iff, Bool.not_eq_true', Bool.not_eq_false', beq_iff_eq, bne_iff_ne, ne_eq, beq_eq_false_iff_ne, bne_eq_false_iff_eq, Int.not_lt, Int.not_le] at hb1
   refine zU (za (zA (zB ?_)))
   refine sq rfl rfl hn rfl (z6 rfl rfl rfl (r := ((i + 1 : Nat) : Int)) (i64w (by omega) (by omega))) ?_
   refine sq rfl rfl hn rfl (zG rfl rfl) ?_
   refine zE ?_
   exact zZ ⟨i + 1, by omega, yN hx hall (by simp [hb1])⟩ ⟨.inl rfl, zJ _⟩ trivial (by simp only; omega) (by repeat (first | exact kr _ | refine kc rfl ?_)) (by repeat (first | exact kr _ | refine kc rfl ?_))
 ·
  try simp only [decide_eq_true_eq, decide_eq_false_iff_not, Bool.and_eq_true, Bool.or_eq_true, Bool.and_eq_false_iff, Bool.or_eq_false_iff, Bool.not_eq_true', Bool.not_eq_false', beq_iff_eq, bne_iff_ne, ne_eq, beq_eq_false_iff_ne, bne_eq_false_iff_eq, Int.not_lt, Int.not_le] at hb0
  refine zw (zK (zK (zW (zA (zC (zB ?_))))))
  refine sq rfl rfl hn rfl (zF rfl rfl) ?_
  refine zE (zA (zO ?_))
  refine zp (zt (.inl rfl) hl rfl (.tmp rfl)) ?_
  have hi2 : i = l.length := by simp only [List.length_map] at hb0; omega
  subst hi2; rw [List.take_length] at hall; rw [ye hall]
theorem ContainsFunc_due (l : List Due8) (p : Due8 → Bool) (g : FuncId) (fi ca : List D) (hp : ∀ x ∈ l, PureAt Tryz.prog g (fi ++ [.agg (dueE x)] ++ ca) (.bool (p x))) : PureAt Tryz.prog 99 [duesD l, .fn (.func g) fi ca] (.bool (l.any p)) := by
 refine PureAt.of_awp Tryz.func99 rfl (by kernel_rfl) (Nat.le_of_ble_eq_true rfl) fun Γ hn hl => ?_
 refine zC (zB ?_)
 refine sq rfl rfl hn rfl (zF rfl rfl) ?_
 refine zE (zA (zC (zB ?_)))
 refine sq rfl rfl hn rfl (zG rfl rfl) ?_
 refine sq rfl rfl hn rfl (zG rfl rfl) ?_
 refine stepW (s_call [] (fun _ => IndexFunc_due l p g fi ca hp) rfl (zI rfl) rfl (nb hn rfl) (fun _ => trivial) rfl rfl (.refl _)) fun _ => ?_
 refine sq rfl rfl hn rfl (zCP rfl rfl rfl) ?_
 refine sq rfl rfl hn rfl (zF rfl rfl) ?_
 refine zE (zA (zO ?_))
 refine zp (zt (.inl rfl) hl rfl (.tmp rfl)) ?_
 rw [yU]
theorem all1_due (x : Due8) (b : Bool) (g : FuncId) (fi ca : List D) (hp : PureAt Tryz.prog g (fi ++ [.agg (dueE x)] ++ ca) (.bool b)) : PureAt Tryz.prog 100 [.agg (dueE x), .ptr [.fn (.func g) fi ca]] (.bool (!b)) := by
 refine PureAt.of_awp Tryz.func100 rfl (by kernel_rfl) (Nat.le_of_ble_eq_true rfl) fun Γ hn hl => ?_
 refine zC (zB ?_)
 refine stepW (zr 2 rfl rfl rfl (nb hn rfl) rfl rfl) fun b2 => ?_
 refine sq rfl rfl hn rfl (zF rfl rfl) ?_
 refine zE (zA (zC (zB ?_)))
 refine sq rfl rfl hn rfl (zR rfl rfl Tryz.underlying129 rfl seesF0) ?_
 refine sq rfl rfl hn rfl (zY rfl rfl (id := 2) rfl Tryz.underlying88 rfl sz88 rfl rfl sees0) ?_
 refine stepW (s_call [] (fun _ => hp) rfl (zI rfl) rfl (nb hn rfl) (fun _ => trivial) rfl rfl (.refl _)) fun _ => ?_
 refine sq rfl rfl hn rfl (yF rfl rfl) ?_
 refine sq rfl rfl hn rfl (zF rfl rfl) ?_
 refine zE (zA (zO ?_))
 exact zt (.inl rfl) hl rfl (.tmp rfl)
theorem all_due (l : List Due8) (p : Due8 → Bool) (g : FuncId) (fi ca : List D) (hp : ∀ x ∈ l, PureAt Tryz.prog g (fi ++ [.agg (dueE x)] ++ ca) (.bool (p x))) : PureAt Tryz.prog 70 [duesD l, .fn (.func g) fi ca] (.bool (l.all p)) := by
 refine PureAt.of_awp Tryz.func70 rfl (by kernel_rfl) (Nat.le_of_ble_eq_true rfl) fun Γ hn hl => ?_
 refine zC (zB ?_)
 refine stepW (zr 3 rfl rfl rfl (nb hn rfl) rfl rfl) fun b3 => ?_
 refine sq rfl rfl hn rfl (zF rfl rfl) ?_
 refine zE (zA (zC (zB ?_)))
 refine sq rfl rfl hn rfl (zG rfl rfl) ?_
 refine kM (zn (t := 3) 3 rfl (nb hn rfl) rfl rfl trivial) ?_
 refine sq rfl rfl hn rfl (yE rfl rfl rfl) ?_
 refine stepW (s_call [] (fun _ => ContainsFunc_due l (fun x => !p x) _ [] [.ptr [.fn (.func g) fi ca]] (fun x hx => all1_due x _ g fi ca (hp x hx))) rfl (zI rfl) rfl (nb hn rfl) (fun _ => trivial) rfl rfl (.refl _)) fun _ => ?_
 refine sq rfl rfl hn rfl (yF rfl rfl) ?_
 refine sq rfl rfl hn rfl (zF rfl rfl) ?_
 refine zE (zA (zO ?_))
 refine zp (zt (.inl rfl) hl rfl (.tmp rfl)) ?_
 rw [List.all_eq_not_any_not]
theorem all18_int (x : Int) (b : Bool) (g : FuncId) (fi ca : List D) (hp : PureAt Tryz.prog g (fi ++ [.int .i64 x] ++ ca) (.bool b)) : PureAt Tryz.prog 134 [.int .i64 x, .ptr [.fn (.func g) fi ca]] (.bool (!b)) := by
 refine PureAt.of_awp Tryz.func134 rfl (by kernel_rfl) (Nat.le_of_ble_eq_true rfl) fun Γ hn hl => ?_
 refine zC (zB ?_)
 refine sq rfl rfl hn rfl (zF rfl rfl) ?_
 refine zE (zA (zC (zB ?_)))
 refine sq rfl rfl hn rfl (zR rfl rfl Tryz.underlying110 rfl seesF0) ?_
 refine sq rfl rfl hn rfl (zG rfl rfl) ?_
 refine stepW (s_call [] (fun _ => hp) rfl (zI rfl) rfl (nb hn rfl) (fun _ => trivial) rfl rfl (.refl _)) fun _ => ?_
 refine sq rfl rfl hn rfl (yF rfl rfl) ?_
 refine sq rfl rfl hn rfl (zF rfl rfl) ?_
 refine zE (zA (zO ?_))
 exact zt (.inl rfl) hl rfl (.tmp rfl)
theorem all8_int (l : List Int) (p : Int → Bool) (g : FuncId) (fi ca : List D) (hp : ∀ x ∈ l, PureAt Tryz.prog g (fi ++ [.int .i64 x] ++ ca) (.bool (p x))) : PureAt Tryz.prog 107 [ints l, .fn (.func g) fi ca] (.bool (l.all p)) := by
 refine PureAt.of_awp Tryz.func107 rfl (by kernel_rfl) (Nat.le_of_ble_eq_true rfl) fun Γ hn hl => ?_
 refine zC (zB ?_)
 refine stepW (zr 3 rfl rfl rfl (nb hn rfl) rfl rfl) fun b3 => ?_
 refine sq rfl rfl hn rfl (zF rfl rfl) ?_
 refine zE (zA (zC (zB ?_)))
 refine sq rfl rfl hn rfl (zG rfl rfl) ?_
 refine kM (zn (t := 3) 3 rfl (nb hn rfl) rfl rfl trivial) ?_
 refine sq rfl rfl hn rfl (yE rfl rfl rfl) ?_
 refine stepW (s_call [] (fun _ => ki l (fun x => !p x) _ [] [.ptr [.fn (.func g) fi ca]] (fun x hx => all18_int x _ g fi ca (hp x hx))) rfl (zI rfl) rfl (nb hn rfl) (fun _ => trivial) rfl rfl (.refl _)) fun _ => ?_
 refine sq rfl rfl hn rfl (yF rfl rfl) ?_
 refine sq rfl rfl hn rfl (zF rfl rfl) ?_
 refine zE (zA (zO ?_))
 refine zp (zt (.inl rfl) hl rfl (.tmp rfl)) ?_
 rw [List.all_eq_not_any_not]
theorem handOf1_ok (n : Int) : PureAt Tryz.prog 108 [.int .i64 n] (.bool (decide (0 ≤ n) && decide (n ≤ 4))) := by
 refine PureAt.of_awp Tryz.func108 rfl (by kernel_rfl) (Nat.le_of_ble_eq_true rfl) fun Γ hn hl => ?_
 refine zC (zB ?_)
 refine sq rfl rfl hn rfl (zF rfl rfl) ?_
 refine zE (zA (zC (zB ?_)))
 refine sq rfl rfl hn rfl (zG rfl rfl) ?_
 refine stepW (s_call [] (fun _ => kO _ _ _) rfl (zI rfl) rfl (nb hn rfl) (fun _ => trivial) rfl rfl (.refl _)) fun _ => ?_
 refine sq rfl rfl hn rfl (zF rfl rfl) ?_
 refine zE (zA (zO ?_))
 exact zt (.inl rfl) hl rfl (.tmp rfl)
theorem yp (x : Int) (l : List Int) : PureAt Tryz.prog 74 [ints (x :: l)] (.int .i64 (minL x l)) := by
 refine PureAt.of_awp Tryz.func74 rfl (by kernel_rfl) (Nat.le_of_ble_eq_true rfl) fun Γ hn hl => ?_
 refine zC (zB ?_)
 refine sq rfl rfl hn rfl (zF rfl rfl) ?_
 refine zE (zA (zC (zB ?_)))
 refine sq rfl rfl hn rfl (zG rfl rfl) ?_
 refine stepW (s_call [] (fun _ => Min_ok x l) rfl (zI rfl) rfl (nb hn rfl) (fun _ => trivial) rfl rfl (.refl _)) fun _ => ?_
 refine sq rfl rfl hn rfl (zF rfl rfl) ?_
 refine zE (zA (zO ?_))
 exact zt (.inl rfl) hl rfl (.tmp rfl)
end Go.Proofs.YtaokpncjemkhcaaGreat
namespace Go.Proofs.YtaokpncjemkhcaaGreat
open Go.RowKit
set_option maxRecDepth 20000
set_option linter.all false
def argL (l : Ldg) : Bool := decide (0 < (l.reg.sights.length : Int)) || !(decide (0 ≤ l.day) && decide (l.day ≤ 9)) || ((l.lends.length : Int) != l.reg.houses) || !(l.dues.all (dueB l))
def checkL (l : Ldg) : Int := bif checkE l.reg != 0 then checkE l.reg else bif decide (6 < (l.dues.length : Int)) then 3 else bif argL l then 1 else 0
theorem owed_take {qs : List Due8} {i : Nat} {q : Due8} (h : qs[i]? = some q) : owedI (qs.take (i + 1)) = owedI (qs.take i) + q.num := by
  rw [List.take_add_one, h, zA6]; simp [owedI]
theorem sum_take {xs : List Int} {i : Nat} {x : Int} (h : xs[i]? = some x) : sumI (xs.take (i + 1)) = sumI (xs.take i) + x := by
  rw [List.take_add_one, h, kB]; simp [sumI]
theorem zBx : ∀ {qs : List Due8}, (∀ q ∈ qs, 0 ≤ q.num ∧ q.num ≤ 1000) → 0 ≤ owedI qs ∧ owedI qs ≤ 1000 * qs.length
  | [], _ => by simp [owedI]
  | q :: qs, h => by
    have h1 := h q List.mem_cons_self
    have h2 := zBx (qs := qs) fun x hx => h x (List.mem_cons_of_mem _ hx)
    simp only [owedI, List.length_cons]; omega
theorem sz30 : Sz Tryz.prog 30 1 := (by kernel_rfl : (Tryz.prog.info? 30).map (·.size) = some 1)
theorem sz48 : Sz Tryz.prog 48 1 := (by kernel_rfl : (Tryz.prog.info? 48).map (·.size) = some 1)
theorem zr88 : (Tryz.prog.info? 88).map (·.zero) = some (some (.agg #[(.int .i64 0), (.int .i64 0), (.int .i64 0)])) := by kernel_rfl
theorem yI (l : Ldg) : PureAt Tryz.prog 26 [ldgD l] (.int .i64 (checkL l)) := by
 refine PureAt.of_awp Tryz.func26 rfl (by kernel_rfl) (Nat.le_of_ble_eq_true rfl) fun Γ hn hl => ?_
 refine zC (zB ?_)
 refine stepW (zr 1 rfl rfl rfl (nb hn rfl) rfl rfl) fun b1 => ?_
 refine sq rfl rfl hn rfl (zF rfl rfl) ?_
 refine zE (zA (zC (zC (zB ?_))))
 refine sq rfl rfl hn rfl (zH rfl rfl Tryz.underlying50 rfl sz44) ?_
 refine sq rfl rfl hn rfl (zY rfl rfl (id := 1) rfl Tryz.underlying44 rfl sz44 rfl rfl sees0) ?_
 refine stepW (s_call [] (fun _ => y6 _) rfl (zI rfl) rfl (nb hn rfl) (fun _ => trivial) rfl rfl (.refl _)) fun _ => ?_
 refine sq rfl rfl hn rfl (zF rfl rfl) ?_
 refine zE (zA (zC (zB ?_)))
 refine sq rfl rfl hn rfl (zG rfl rfl) ?_
 refine sq rfl rfl hn rfl (yX rfl rfl rfl) ?_
 refine zE (zA ?_)
 refine zS rfl (fun hb0 => ?_) (fun hb0 => ?_)
 ·
  refine zC (zB ?_)
  refine sq rfl rfl hn rfl (zG rfl rfl) ?_
  refine sq rfl rfl hn rfl (zF rfl rfl) ?_
  refine zE (zA (zO (zL ?_)))
  refine zp (zt (.inl rfl) hl rfl (.tmp rfl)) ?_
  rw [show checkL l = checkE l.reg from by unfold checkL; rw [hb0]; rfl]
 ·
  refine zU (zA (zC (zB ?_)))
  refine sq rfl rfl hn rfl (zY rfl rfl (id := 1) rfl Tryz.underlying50 rfl sz50 rfl rfl sees0) ?_
  refine sq rfl rfl hn rfl (yE rfl rfl rfl) ?_
  refine sq rfl rfl hn rfl (zF rfl rfl) ?_
  refine zE (zA (zC (zV (zC (zB ?_)))))
  refine sq rfl rfl hn rfl (zH rfl rfl Tryz.underlying50 rfl sz48) ?_
  refine sq rfl rfl hn rfl (zQ rfl rfl (id := 1) rfl Tryz.underlying48 rfl rfl sees0) ?_
  refine sq rfl rfl hn rfl (z7 rfl rfl Tryz.underlying48) ?_
  refine sq rfl rfl hn rfl (zBF rfl rfl rfl) ?_
  refine sq rfl rfl hn rfl (zF rfl rfl) ?_
  refine zE (zA ?_)
  refine zS rfl (fun hb1 => ?_) (fun hb1 => ?_)
  ·
   refine zC (zB ?_)
   refine sq rfl rfl hn rfl (zF rfl rfl) ?_
   refine zE (zA (zO (zf (zL ?_))))
   refine zp (zt (.inl rfl) hl rfl (.tmp rfl)) ?_
   simp only [List.length_map] at hb0 hb1; rw [show checkL l = 3 from by unfold checkL; rw [hb0, hb1]; rfl]
  ·
   refine zC (zB ?_)
   refine sq rfl rfl hn rfl (zH rfl rfl Tryz.underlying50 rfl sz44) ?_
   refine sq rfl rfl hn rfl (zH rfl rfl Tryz.underlying44 rfl sz42) ?_
   refine sq rfl rfl hn rfl (zQ rfl rfl (id := 1) rfl Tryz.underlying42 rfl rfl sees0) ?_
   refine sq rfl rfl hn rfl (z7 rfl rfl Tryz.underlying42) ?_
   refine sq rfl rfl hn rfl (zBF rfl rfl rfl) ?_
   refine sq rfl rfl hn rfl (zG rfl rfl) ?_
   refine stepG [] (zD rfl rfl rfl) rfl (nb hn rfl) (fun hc => trivial) (fun hc => zH rfl rfl Tryz.underlying50 rfl sz3) ?_
   refine stepG [(25, _)] (zD rfl rfl rfl) rfl (nb hn rfl) (fun hc => ⟨⟨_, rfl, hc⟩, trivial⟩) (fun hc => zQ rfl rfl (id := 1) rfl Tryz.underlying3 rfl rfl sees0) ?_
   refine stepW (s_call [(26, _)] (fun hc => kO _ _ _) rfl (zD rfl rfl rfl) rfl (nb hn rfl) (fun hc => ⟨⟨_, rfl, hc⟩, trivial⟩) rfl rfl (.refl _)) fun _ => ?_
   refine stepG [(27, _)] (zD rfl rfl rfl) rfl (nb hn rfl) (fun hc => ⟨⟨_, rfl, hc⟩, trivial⟩) (fun hc => yF rfl rfl) ?_
   refine sq rfl rfl hn rfl (q_or rfl rfl rfl (by intro hB; first | (rw [hB]; rfl) | (rw [hB, hc]; rfl) | simp_all)) ?_
   refine sq rfl rfl hn rfl (zG rfl rfl) ?_
   refine stepG [] (zD rfl rfl rfl) rfl (nb hn rfl) (fun hc => trivial) (fun hc => zH rfl rfl Tryz.underlying50 rfl sz30) ?_
   refine stepG [(31, _)] (zD rfl rfl rfl) rfl (nb hn rfl) (fun hc => ⟨⟨_, rfl, hc⟩, trivial⟩) (fun hc => zQ rfl rfl (id := 1) rfl Tryz.underlying30 rfl rfl sees0) ?_
   refine stepG [(32, _)] (zD rfl rfl rfl) rfl (nb hn rfl) (fun hc => ⟨⟨_, rfl, hc⟩, trivial⟩) (fun hc => z7 rfl rfl Tryz.underlying30) ?_
   refine stepG [] (zD rfl rfl rfl) rfl (nb hn rfl) (fun hc => trivial) (fun hc => zH rfl rfl Tryz.underlying50 rfl sz44) ?_
   refine stepG [(34, _)] (zD rfl rfl rfl) rfl (nb hn rfl) (fun hc => ⟨⟨_, rfl, hc⟩, trivial⟩) (fun hc => zH rfl rfl Tryz.underlying44 rfl sz3) ?_
   refine stepG [(35, _)] (zD rfl rfl rfl) rfl (nb hn rfl) (fun hc => ⟨⟨_, rfl, hc⟩, trivial⟩) (fun hc => zQ rfl rfl (id := 1) rfl Tryz.underlying3 rfl rfl sees0) ?_
   refine stepG [(33, _), (36, _)] (zD rfl rfl rfl) rfl (nb hn rfl) (fun hc => ⟨⟨_, rfl, hc⟩, ⟨_, rfl, hc⟩, trivial⟩) (fun hc => yX rfl rfl rfl) ?_
   refine sq rfl rfl hn rfl (q_or rfl rfl rfl (by intro hB; first | (rw [hB]; rfl) | (rw [hB, hc]; rfl) | simp_all)) ?_
   refine sq rfl rfl hn rfl (zG rfl rfl) ?_
   refine stepG [] (zD rfl rfl rfl) rfl (nb hn rfl) (fun hc => trivial) (fun hc => zH rfl rfl Tryz.underlying50 rfl sz48) ?_
   refine stepG [(40, _)] (zD rfl rfl rfl) rfl (nb hn rfl) (fun hc => ⟨⟨_, rfl, hc⟩, trivial⟩) (fun hc => zQ rfl rfl (id := 1) rfl Tryz.underlying48 rfl rfl sees0) ?_
   refine stepG [] (zD rfl rfl rfl) rfl (nb hn rfl) (fun hc => trivial) (fun hc => zG rfl rfl) ?_
   refine stepW (s_call [(41, _), (42, _)] (fun hc => all_due l.dues (dueB l) 68 [ldgD l] [] (fun q _ => due8_ok l q)) rfl (zD rfl rfl rfl) rfl (nb hn rfl) (fun hc => ⟨⟨_, rfl, hc⟩, ⟨_, rfl, hc⟩, trivial⟩) rfl rfl (.refl _)) fun _ => ?_
   refine stepG [(43, _)] (zD rfl rfl rfl) rfl (nb hn rfl) (fun hc => ⟨⟨_, rfl, hc⟩, trivial⟩) (fun hc => yF rfl rfl) ?_
   refine sq rfl rfl hn rfl (q_or rfl rfl rfl (by intro hB; first | (rw [hB]; rfl) | (rw [hB, hc]; rfl) | simp_all)) ?_
   refine sq rfl rfl hn rfl (zF rfl rfl) ?_
   refine zE (zA ?_)
   refine zS rfl (fun hb2 => ?_) (fun hb2 => ?_)
   ·
    refine zC (zB ?_)
    refine sq rfl rfl hn rfl (zF rfl rfl) ?_
    refine zE (zA (zO (zf (zL ?_))))
    refine zp (zt (.inl rfl) hl rfl (.tmp rfl)) ?_
    simp only [List.length_map] at hb0 hb1 hb2; rw [show checkL l = 1 from by unfold checkL argL; rw [hb0, hb1, hb2]; rfl]
   ·
    refine zU (za (zA (zC (zB ?_))))
    refine sq rfl rfl hn rfl (zF rfl rfl) ?_
    refine zE (zA (zO ?_))
    refine zp (zt (.inl rfl) hl rfl (.tmp rfl)) ?_
    simp only [List.length_map] at hb0 hb1 hb2; rw [show checkL l = 0 from by unfold checkL argL; rw [hb0, hb1, hb2]; rfl]
theorem lacks_ok (a b : Int) (h5 : -1000 ≤ b ∧ b ≤ 1000) : PureAt Tryz.prog 109 [.agg [.int .i64 a, .int .i64 b]] (.int .i64 (max 0 (-b))) := by
 refine PureAt.of_awp Tryz.func109 rfl (by kernel_rfl) (Nat.le_of_ble_eq_true rfl) fun Γ hn hl => ?_
 refine zC (zB ?_)
 refine stepW (zr 1 rfl rfl rfl (nb hn rfl) rfl rfl) fun b1 => ?_
 refine sq rfl rfl hn rfl (zF rfl rfl) ?_
 refine zE (zA (zC (zB ?_)))
 refine sq rfl rfl hn rfl (zH rfl rfl Tryz.underlying169 rfl sz3) ?_
 refine sq rfl rfl hn rfl (zQ rfl rfl (id := 1) rfl Tryz.underlying3 rfl rfl sees0) ?_
 refine sq rfl rfl hn rfl (q_neg rfl rfl (i64w (by omega) rfl)) ?_
 refine sq rfl rfl hn rfl (zCt rfl rfl rfl) ?_
 refine sq rfl rfl hn rfl (zF rfl rfl) ?_
 refine zE (zA (zO ?_))
 refine zp (zt (.inl rfl) hl rfl (.tmp rfl)) ?_
 rw [Int.zero_sub]
theorem lends_ok (a b : Int) : PureAt Tryz.prog 111 [.agg [.int .i64 a, .int .i64 b]] (.int .i64 (max 0 (min b a))) := by
 refine PureAt.of_awp Tryz.func111 rfl (by kernel_rfl) (Nat.le_of_ble_eq_true rfl) fun Γ hn hl => ?_
 refine zC (zB ?_)
 refine stepW (zr 1 rfl rfl rfl (nb hn rfl) rfl rfl) fun b1 => ?_
 refine sq rfl rfl hn rfl (zF rfl rfl) ?_
 refine zE (zA (zC (zB ?_)))
 refine sq rfl rfl hn rfl (zH rfl rfl Tryz.underlying169 rfl sz3) ?_
 refine sq rfl rfl hn rfl (zQ rfl rfl (id := 1) rfl Tryz.underlying3 rfl rfl sees0) ?_
 refine sq rfl rfl hn rfl (zH rfl rfl Tryz.underlying169 rfl sz3) ?_
 refine sq rfl rfl hn rfl (zQ rfl rfl (id := 1) rfl Tryz.underlying3 rfl rfl sees0) ?_
 refine stepW (zP rfl rfl rfl (nb hn rfl) Tryz.underlying22 sz3 zr3 rfl rfl rfl (show _ = [.d (.int .i64 0), .d (.int .i64 0)] from by kernel_rfl) (by kernel_rfl) rfl rfl rfl rfl rfl) fun _ => ?_
 refine stepW (s_call [] (fun _ => yp b [a]) rfl (zI rfl) rfl (nb hn rfl) (fun _ => trivial) rfl rfl (.refl _)) fun _ => ?_
 refine sq rfl rfl hn rfl (zCt rfl rfl rfl) ?_
 refine sq rfl rfl hn rfl (zF rfl rfl) ?_
 refine zE (zA (zO ?_))
 refine zp (zt (.inl rfl) hl rfl (.tmp rfl)) ?_
 simp [minL]
theorem each_ok (l : Ldg) (h : Int) : PureAt Tryz.prog 110 [ldgD l, .int .i64 h] (.bool true) := by
 refine PureAt.of_awp Tryz.func110 rfl (by kernel_rfl) (Nat.le_of_ble_eq_true rfl) fun Γ hn hl => ?_
 refine zC (zB ?_)
 refine stepW (zr 2 rfl rfl rfl (nb hn rfl) rfl rfl) fun b2 => ?_
 refine sq rfl rfl hn rfl (zF rfl rfl) ?_
 refine zE (zA (zC (zB ?_)))
 refine sq rfl rfl hn rfl (zF rfl rfl) ?_
 refine zE (zA (zO ?_))
 exact zt (.inl rfl) hl rfl (.tmp rfl)
theorem lender_ok (l : Ldg) (h : Nat) (b : Bool) (hb5 : l.lends[h]? = some b) : PureAt Tryz.prog 112 [ldgD l, .int .i64 (h : Nat)] (.bool b) := by
 refine PureAt.of_awp Tryz.func112 rfl (by kernel_rfl) (Nat.le_of_ble_eq_true rfl) fun Γ hn hl => ?_
 refine zC (zB ?_)
 refine stepW (zr 2 rfl rfl rfl (nb hn rfl) rfl rfl) fun b2 => ?_
 refine sq rfl rfl hn rfl (zF rfl rfl) ?_
 refine zE (zA (zC (zB ?_)))
 refine sq rfl rfl hn rfl (zH rfl rfl Tryz.underlying50 rfl sz30) ?_
 refine sq rfl rfl hn rfl (zQ rfl rfl (id := 2) rfl Tryz.underlying30 rfl rfl sees0) ?_
 refine sq rfl rfl hn rfl (zG rfl rfl) ?_
 refine sq rfl rfl hn rfl (q_index (i := h) rfl rfl rfl Tryz.underlying30 sz4 rfl (mget hb5)) ?_
 refine sq rfl rfl hn rfl (zR rfl rfl Tryz.underlying4 rfl seesF0) ?_
 refine sq rfl rfl hn rfl (zF rfl rfl) ?_
 refine zE (zA (zO ?_))
 exact zt (.inl rfl) hl rfl (.tmp rfl)
theorem zCQ (l : Ldg) (hq5 : ∀ q ∈ l.dues, 0 ≤ q.num ∧ q.num ≤ 1000) (hl5 : l.dues.length ≤ 1000000) : PureAt Tryz.prog 72 [ldgD l] (.int .i64 (owedI l.dues)) := by
 refine PureAt.of_awp Tryz.func72 rfl (by kernel_rfl) (Nat.le_of_ble_eq_true rfl) fun Γ hn hl => ?_
 refine zC (zB ?_)
 refine stepW (zr 1 rfl rfl rfl (nb hn rfl) rfl rfl) fun b1 => ?_
 refine sq rfl rfl hn rfl (zF rfl rfl) ?_
 refine zE (zA (zC (zC (zB ?_))))
 refine sq rfl rfl hn rfl (zH rfl rfl Tryz.underlying50 rfl sz48) ?_
 refine sq rfl rfl hn rfl (zQ rfl rfl (id := 1) rfl Tryz.underlying48 rfl rfl sees0) ?_
 refine sq rfl rfl hn rfl (z7 rfl rfl Tryz.underlying48) ?_
 refine sq rfl rfl hn rfl (zG rfl rfl) ?_
 refine zE (zA (zV ?_))
 refine awp_loop_on (ι := {i : Nat // i ≤ l.dues.length}) (fun x => (2, true, .d (.int .i64 (owedI (l.dues.take x.1)))) :: (8, true, .d (.int .i64 (x.1 : Nat))) :: anys [9, 10, 11, 4, 12, 13, 14, 15, 16]) (fun x => gones [4]) (fun x => l.dues.length - x.1) ⟨0, Nat.zero_le _⟩ ⟨.inl rfl, .inl rfl, zJ _⟩ (zX _) ?_
 rintro ⟨i, hi⟩
 dsimp only
 refine zC (zB ?_)
 refine sq rfl rfl hn rfl (yJ rfl rfl rfl) ?_
 refine zE (zA (zC ?_))
 refine zS rfl (fun hb0 => ?_) (fun hb0 => ?_)
 ·
  have hlt : i < l.dues.length := by simpa using hb0
  obtain ⟨q, hx⟩ := z2 hlt
  have hq := hq5 q (List.mem_of_getElem? hx)
  have hb5 := zBx (qs := l.dues.take i) fun x hx => hq5 x (List.mem_of_mem_take hx)
  have hb6 : (l.dues.take i).length ≤ 1000000 := by simp; omega
  refine zU (zA (zC (zV (zC (zB ?_)))))
  refine sq rfl rfl hn rfl (q_index rfl rfl rfl Tryz.underlying48 sz88 rfl (mget hx)) ?_
  refine sq rfl rfl hn rfl (ze rfl rfl Tryz.underlying88 rfl sz88 rfl rfl seesF0) ?_
  refine stepW (zh 4 rfl rfl rfl (nb hn rfl) zr88 rfl rfl) fun b4 => ?_
  refine stepW (zl rfl rfl rfl rfl rfl rfl (id := 4) rfl sz88 rfl (Nat.le_of_ble_eq_true rfl) rfl trivial) fun _ => ?_
  refine zE (zA (zB ?_))
  refine sq rfl rfl hn rfl (zG rfl rfl) ?_
  refine sq rfl rfl hn rfl (zH rfl rfl Tryz.underlying88 rfl sz3) ?_
  refine sq rfl rfl hn rfl (zQ rfl rfl (id := 4) rfl Tryz.underlying3 rfl rfl sees0) ?_
  refine sq rfl rfl hn rfl (z6 rfl rfl rfl (r := owedI (l.dues.take (i + 1))) (by rw [owed_take hx]; exact i64w (by omega) rfl)) ?_
  refine sq rfl rfl hn rfl (zF rfl rfl) ?_
  refine zE (za (zA (zB ?_)))
  refine sq rfl rfl hn rfl (z6 rfl rfl rfl (r := ((i + 1 : Nat) : Int)) (i64w (by omega) (by omega))) ?_
  refine sq rfl rfl hn rfl (zG rfl rfl) ?_
  refine zE ?_
  exact zZ ⟨i + 1, by omega⟩ ⟨.inl rfl, .inl rfl, zJ _⟩ (zX _) (by simp only; omega) (by repeat (first | exact kr _ | refine kc rfl ?_)) (by repeat (first | exact kr _ | refine kc rfl ?_))
 ·
  have hie : i = l.dues.length := by simp only [List.length_map, decide_eq_false_iff_not] at hb0; omega
  subst hie
  refine zw (zK (zK (zW (zA (zC (zB ?_))))))
  refine sq rfl rfl hn rfl (zG rfl rfl) ?_
  refine sq rfl rfl hn rfl (zF rfl rfl) ?_
  refine zE (zA (zO ?_))
  refine zp (zt (.inl rfl) hl rfl (.tmp rfl)) ?_
  rw [List.take_length]
end Go.Proofs.YtaokpncjemkhcaaGreat
namespace Go.Proofs.YtaokpncjemkhcaaGreat
open Go.RowKit
set_option maxRecDepth 20000
set_option linter.all false
theorem zD1 : ∀ {xs : List Int}, (∀ q ∈ xs, -1000 ≤ q ∧ q ≤ 1000) → -(1000 * (xs.length : Int)) ≤ sumI xs ∧ sumI xs ≤ 1000 * xs.length
  | [], _ => by simp [sumI]
  | q :: qs, h => by
    have h1 := h q List.mem_cons_self
    have h2 := zD1 (xs := qs) fun x hx => h x (List.mem_cons_of_mem _ hx)
    simp only [sumI, List.length_cons]; omega
end Go.Proofs.YtaokpncjemkhcaaGreat
namespace Go.Proofs.YtaokpncjemkhcaaGreat
open Go.RowKit
set_option maxRecDepth 20000
set_option linter.all false
def intsB : List Int → List Int → Bool
  | [], [] => true
  | a :: p, b :: q => bif a != b then false else intsB p q
  | _, _ => false
theorem zAX : ∀ {a b : List Int}, intsB a b = true ↔ a = b
  | [], [] => by simp [intsB]
  | [], _ :: _ => by simp [intsB]
  | _ :: _, [] => by simp [intsB]
  | a :: p, b :: q => by
    unfold intsB
    by_cases h : a = b
    · subst h; simp [zAX]
    · simp [h]
def handB (l : Ldg) (h : List Int) : Bool := h.all (fun n => decide (0 ≤ n) && decide (n ≤ 4)) && ((h.length : Int) == l.reg.houses)
theorem kA (a b : List Int) : PureAt Tryz.prog 29 [ints a, ints b] (.bool (intsB a b)) := by
 refine PureAt.of_awp' Tryz.func29 rfl (by kernel_rfl) rfl fun hlen Γ hn hl => ?_
 have hl1 := hlen.1; have hl2 := hlen.2.1
 simp only [List.length_map] at hl1 hl2
 refine zC (zB ?_)
 refine sq rfl rfl hn rfl (zF rfl rfl) ?_
 refine zE (zA (zC (zC (zB ?_))))
 refine sq rfl rfl hn rfl (zG rfl rfl) ?_
 refine sq rfl rfl hn rfl (z7 rfl rfl Tryz.underlying22) ?_
 refine sq rfl rfl hn rfl (zG rfl rfl) ?_
 refine sq rfl rfl hn rfl (z7 rfl rfl Tryz.underlying22) ?_
 refine sq rfl rfl hn rfl (yX rfl rfl rfl) ?_
 refine zE (zA ?_)
 refine zS rfl (fun hb0 => ?_) (fun hb0 => ?_)
 ·
  have hne : a ≠ b := fun e => by subst e; simp at hb0
  refine zC (zB ?_)
  refine sq rfl rfl hn rfl (zF rfl rfl) ?_
  refine zE (zA (zO (zL ?_)))
  refine zp (zt (.inl rfl) hl rfl (.tmp rfl)) ?_
  rw [show intsB a b = false from by rw [Bool.eq_false_iff]; exact fun q => hne (zAX.1 q)]
 ·
  have hle : a.length = b.length := by simp at hb0; omega
  refine zU (zA (zC (zC (zB ?_))))
  refine sq rfl rfl hn rfl (zF rfl rfl) ?_
  refine zE (zA (zV ?_))
  refine awp_loop_on (ι := {i : Nat // i ≤ a.length ∧ ∀ j, j < i → a[j]? = b[j]?}) (fun x => (5, true, .d (.int .i64 (x.1 : Nat))) :: anys [11, 12, 13, 14, 17, 18, 19, 20, 21, 22, 23, 24, 25, 15, 16]) (fun x => []) (fun x => a.length - x.1) ⟨0, Nat.zero_le _, fun j hj => by omega⟩ ⟨.inl rfl, zJ _⟩ trivial ?_
  rintro ⟨i, hi, hall⟩
  dsimp only
  refine zC (zC (zB ?_))
  refine sq rfl rfl hn rfl (zG rfl rfl) ?_
  refine sq rfl rfl hn rfl (zG rfl rfl) ?_
  refine sq rfl rfl hn rfl (z7 rfl rfl Tryz.underlying22) ?_
  refine sq rfl rfl hn rfl (yJ rfl rfl rfl) ?_
  refine zE (zA ?_)
  refine zS rfl (fun hb1 => ?_) (fun hb1 => ?_)
  ·
   have hlt : i < a.length := by simp at hb1; omega
   obtain ⟨x, hx⟩ := z2 hlt
   obtain ⟨y, hy⟩ := z2 (show i < b.length by omega)
   refine zU (zA (zC (zV (zC ?_))))
   refine yC (W := fun b => True) fmo ?_
   refine d1q (i := 0) rfl (by kernel_rfl) (fun _ _ _ _ h => h) rfl rfl hn rfl (zG rfl rfl) ?_
   refine d1q (i := 1) rfl (by kernel_rfl) (fun _ _ _ _ h => h) rfl rfl hn rfl (zG rfl rfl) ?_
   refine d1q (i := 2) rfl (by kernel_rfl) (fun _ _ _ _ h => h) rfl rfl hn rfl (q_index (i := i) rfl rfl rfl Tryz.underlying22 sz3 rfl (mget hx)) ?_
   refine d1q (i := 3) rfl (by kernel_rfl) (fun _ _ _ _ h => h) rfl rfl hn rfl (zR rfl rfl Tryz.underlying3 rfl seesFA) ?_
   refine d1q (i := 4) rfl (by kernel_rfl) (fun _ _ _ _ h => h) rfl rfl hn rfl (zG rfl rfl) ?_
   refine d1q (i := 5) rfl (by kernel_rfl) (fun _ _ _ _ h => h) rfl rfl hn rfl (zG rfl rfl) ?_
   refine d1q (i := 6) rfl (by kernel_rfl) (fun _ _ _ _ h => h) rfl rfl hn rfl (q_index (i := i) rfl rfl rfl Tryz.underlying22 sz3 rfl (mget hy)) ?_
   refine d1q (i := 7) rfl (by kernel_rfl) (fun _ _ _ _ h => h) rfl rfl hn rfl (zR rfl rfl Tryz.underlying3 rfl seesFA) ?_
   refine d1q (i := 8) rfl (by kernel_rfl) (fun _ _ _ _ h => h) rfl rfl hn rfl (yX rfl rfl rfl) ?_
   refine zM ?_
   refine zv (by kernel_rfl) ?_
   refine zA ?_
   refine zS rfl (fun hb2 => ?_) (fun hb2 => ?_)
   ·
    have hne : a ≠ b := fun e => by (subst e; rw [hx] at hy; cases hy; simp at hb2)
    refine zC (zB ?_)
    refine sq rfl rfl hn rfl (zF rfl rfl) ?_
    refine zE (zA (zO (zf (zL (zL (zf (zL ?_)))))))
    refine zp (zt (.inl rfl) hl rfl (.tmp rfl)) ?_
    rw [show intsB a b = false from by rw [Bool.eq_false_iff]; exact fun q => hne (zAX.1 q)]
   ·
    have hxy : x = y := by simpa using hb2
    refine zU (za (zA (zB ?_)))
    refine sq rfl rfl hn rfl (zG rfl rfl) ?_
    refine sq rfl rfl hn rfl (z6 rfl rfl rfl (r := ((i + 1 : Nat) : Int)) (i64w (by omega) (by omega))) ?_
    refine sq rfl rfl hn rfl (zF rfl rfl) ?_
    refine zE ?_
    exact zZ ⟨i + 1, by omega, fun j hj => by (by_cases e : j = i; (subst e; rw [hx, hy, hxy]); exact hall j (by omega))⟩ ⟨.inl rfl, zJ _⟩ trivial (by simp only; omega) (by repeat (first | exact kr _ | refine kc rfl ?_)) (by repeat (first | exact kr _ | refine kc rfl ?_))
  ·
   have hie : i = a.length := by simp at hb1; omega
   refine zw (zK (zK (zW (zA (zC (zB ?_))))))
   refine sq rfl rfl hn rfl (zF rfl rfl) ?_
   refine zE (zA (zO ?_))
   refine zp (zt (.inl rfl) hl rfl (.tmp rfl)) ?_
   rw [show intsB a b = true from zAX.2 (List.ext_getElem? fun j => by (by_cases e : j < i; exact hall j e; rw [List.getElem?_eq_none (by omega), List.getElem?_eq_none (by omega)]))]
end Go.Proofs.YtaokpncjemkhcaaGreat
namespace Go.Proofs.YtaokpncjemkhcaaGreat
open Go.RowKit
set_option maxRecDepth 20000
set_option linter.all false
theorem check_reg {l : Ldg} (h : checkL l = 0) : checkE l.reg = 0 := by
  unfold checkL at h
  by_cases e : checkE l.reg = 0
  · exact e
  · rw [show (checkE l.reg != 0) = true by simpa using e, cond_true] at h; exact h
end Go.Proofs.YtaokpncjemkhcaaGreat
namespace Go.Proofs.YtaokpncjemkhcaaGreat
open Go.RowKit
set_option maxRecDepth 20000
set_option linter.all false
@[reducible] def stE (p : Int × Int) : List D := [.int .i64 p.1, .int .i64 p.2]
@[reducible] def stsD (l : List (Int × Int)) : D := .slice 2 (l.map stE)
def lackL (l : List (Int × Int)) : Int := sumI (l.map fun p => max 0 (-p.2))
theorem lack_take {l : List (Int × Int)} {i : Nat} {p : Int × Int} (h : l[i]? = some p) : lackL (l.take (i + 1)) = lackL (l.take i) + max 0 (-p.2) := by
  unfold lackL; rw [List.take_add_one, h, List.map_append, kB]; simp [sumI]
theorem lack_bd {l : List (Int × Int)} (h : ∀ p ∈ l, -1000 ≤ p.2 ∧ p.2 ≤ 1000) : -(1000 * (l.length : Int)) ≤ lackL l ∧ lackL l ≤ 1000 * l.length := by
  have := zD1 (xs := l.map fun p => max 0 (-p.2)) fun x hx => by obtain ⟨p, hp, rfl⟩ := List.mem_map.1 hx; have := h p hp; omega
  simpa [lackL] using this
def lentF (p : (Int × Int) × Bool) : Int := if p.2 = true then max 0 (min p.1.2 p.1.1) else 0
def lentL (l : List (Int × Int)) (ls : List Bool) : Int := sumI ((l.zip ls).map lentF)
theorem zCw {z : List ((Int × Int) × Bool)} {i : Nat} {p : (Int × Int) × Bool} (h : z[i]? = some p) : sumI ((z.take (i + 1)).map lentF) = sumI ((z.take i).map lentF) + lentF p := by
  rw [List.take_add_one, h, List.map_append, kB]; simp [sumI]
theorem lent_bd {z : List ((Int × Int) × Bool)} (h : ∀ p ∈ z, p.1.2 ≤ 1000) : -(1000 * (z.length : Int)) ≤ sumI (z.map lentF) ∧ sumI (z.map lentF) ≤ 1000 * z.length := by
  have := zD1 (xs := z.map lentF) fun x hx => by obtain ⟨p, hp, rfl⟩ := List.mem_map.1 hx; have := h p hp; unfold lentF; split <;> omega
  simpa using this
theorem zEK {l : List (Int × Int)} {ls : List Bool} {i : Nat} {p : Int × Int} {b : Bool} (h : l[i]? = some p) (h2 : ls[i]? = some b) : (l.zip ls)[i]? = some (p, b) := by rw [List.getElem?_zip_eq_some]; exact ⟨h, h2⟩
theorem sz169 : Sz Tryz.prog 169 2 := (by kernel_rfl : (Tryz.prog.info? 169).map (·.size) = some 2)
theorem sz170 : Sz Tryz.prog 170 1 := (by kernel_rfl : (Tryz.prog.info? 170).map (·.size) = some 1)
theorem sz171 : Sz Tryz.prog 171 1 := (by kernel_rfl : (Tryz.prog.info? 171).map (·.size) = some 1)
theorem zr169 : (Tryz.prog.info? 169).map (·.zero) = some (some (.agg #[(.int .i64 0), (.int .i64 0)])) := by kernel_rfl
theorem sumLack_ok (l : Ldg) (sts : List (Int × Int)) (hp5 : ∀ p ∈ sts, -1000 ≤ p.2 ∧ p.2 ≤ 1000) (hl5 : sts.length ≤ 4) : PureAt Tryz.prog 113 [.agg [.fn (.func 109) [] [], .fn (.func 110) [] []], ldgD l, stsD sts] (.int .i64 (lackL sts)) := by
 refine PureAt.of_awp Tryz.func113 rfl (by kernel_rfl) (Nat.le_of_ble_eq_true rfl) fun Γ hn hl => ?_
 refine zC (zB ?_)
 refine stepW (zr 3 rfl rfl rfl (nb hn rfl) rfl rfl) fun b3 => ?_
 refine stepW (zr 4 rfl rfl rfl (nb hn rfl) rfl rfl) fun b4 => ?_
 refine sq rfl rfl hn rfl (zF rfl rfl) ?_
 refine zE (zA (zC (zC (zB ?_))))
 refine sq rfl rfl hn rfl (zG rfl rfl) ?_
 refine sq rfl rfl hn rfl (z7 rfl rfl Tryz.underlying167) ?_
 refine sq rfl rfl hn rfl (zG rfl rfl) ?_
 refine zE (zA (zV ?_))
 refine awp_loop_on (ι := {i : Nat // i ≤ sts.length}) (fun x => (6, true, .d (.int .i64 (lackL (sts.take x.1)))) :: (11, true, .d (.int .i64 (x.1 : Nat))) :: anys [12, 13, 14, 15, 8, 7, 16, 17, 18, 19, 20, 21, 22, 23, 24, 25, 26, 27]) (fun x => gones [8]) (fun x => sts.length - x.1) ⟨0, Nat.zero_le _⟩ ⟨.inl rfl, .inl rfl, zJ _⟩ (zX _) ?_
 rintro ⟨i, hi⟩
 dsimp only
 refine zC (zB ?_)
 refine sq rfl rfl hn rfl (yJ rfl rfl rfl) ?_
 refine zE (zA (zC ?_))
 refine zS rfl (fun hb0 => ?_) (fun hb0 => ?_)
 ·
  have hlt : i < sts.length := by simpa using hb0
  obtain ⟨p, hx⟩ := z2 hlt
  have hp := hp5 p (List.mem_of_getElem? hx)
  have hb5 := lack_bd (l := sts.take i) fun x hx => hp5 x (List.mem_of_mem_take hx)
  have hb6 : (sts.take i).length ≤ 4 := by simp; omega
  refine zU (zA (zC (zV (zC (zB ?_)))))
  refine sq rfl rfl hn rfl (zG rfl rfl) ?_
  refine sq rfl rfl hn rfl (q_index (i := i) rfl rfl rfl Tryz.underlying167 sz169 rfl (mget hx)) ?_
  refine sq rfl rfl hn rfl (ze rfl rfl Tryz.underlying169 rfl sz169 rfl rfl seesF0) ?_
  refine stepW (zh 8 rfl rfl rfl (nb hn rfl) zr169 rfl rfl) fun b8 => ?_
  refine sq rfl rfl hn rfl (zF rfl rfl) ?_
  refine stepW (zl rfl rfl rfl rfl rfl rfl (id := 8) rfl sz169 rfl (Nat.le_of_ble_eq_true rfl) rfl trivial) fun _ => ?_
  refine zE (zA (zC (zB ?_)))
  refine sq rfl rfl hn rfl (zH rfl rfl Tryz.underlying173 rfl sz171) ?_
  refine sq rfl rfl hn rfl (zQ rfl rfl (id := 3) rfl Tryz.underlying171 rfl rfl sees0) ?_
  refine sq rfl rfl hn rfl (zY rfl rfl (id := 4) rfl Tryz.underlying50 rfl sz50 rfl rfl sees0) ?_
  refine sq rfl rfl hn rfl (zG rfl rfl) ?_
  refine stepW (s_call [] (fun _ => each_ok _ _) rfl (zI rfl) rfl (nb hn rfl) (fun _ => trivial) rfl rfl (.refl _)) fun _ => ?_
  refine zE (zA ?_)
  refine zS rfl (fun hb1 => ?_) (fun hb1 => ?_)
  ·
   refine zB ?_
   refine sq rfl rfl hn rfl (zG rfl rfl) ?_
   refine sq rfl rfl hn rfl (zH rfl rfl Tryz.underlying173 rfl sz170) ?_
   refine sq rfl rfl hn rfl (zQ rfl rfl (id := 3) rfl Tryz.underlying170 rfl rfl sees0) ?_
   refine sq rfl rfl hn rfl (zY rfl rfl (id := 8) rfl Tryz.underlying169 rfl sz169 rfl rfl sees0) ?_
   refine stepW (s_call [] (fun _ => lacks_ok _ _ hp) rfl (zI rfl) rfl (nb hn rfl) (fun _ => trivial) rfl rfl (.refl _)) fun _ => ?_
   refine sq rfl rfl hn rfl (z6 rfl rfl rfl (r := lackL (sts.take (i + 1))) (by rw [lack_take hx]; exact i64w (by omega) rfl)) ?_
   refine sq rfl rfl hn rfl (zF rfl rfl) ?_
   refine zE (za (zA (zB ?_)))
   refine sq rfl rfl hn rfl (z6 rfl rfl rfl (r := ((i + 1 : Nat) : Int)) (i64w (by omega) (by omega))) ?_
   refine sq rfl rfl hn rfl (zG rfl rfl) ?_
   refine zE ?_
   exact zZ ⟨i + 1, by omega⟩ ⟨.inl rfl, .inl rfl, zJ _⟩ (zX _) (by simp only; omega) (by repeat (first | exact kr _ | refine kc rfl ?_)) (by repeat (first | exact kr _ | refine kc rfl ?_))
  ·
   cases hb1
 ·
  have hie : i = sts.length := by simp only [List.length_map, decide_eq_false_iff_not] at hb0; omega
  subst hie
  refine zw (zK (zK (zW (zA (zC (zB ?_))))))
  refine sq rfl rfl hn rfl (zG rfl rfl) ?_
  refine sq rfl rfl hn rfl (zF rfl rfl) ?_
  refine zE (zA (zO ?_))
  refine zp (zt (.inl rfl) hl rfl (.tmp rfl)) ?_
  rw [List.take_length]
theorem sumLend_ok (l : Ldg) (sts : List (Int × Int)) (hp5 : ∀ p ∈ sts, -1000 ≤ p.2 ∧ p.2 ≤ 1000) (hl5 : sts.length ≤ 4) (hl6 : l.lends.length = sts.length) : PureAt Tryz.prog 113 [.agg [.fn (.func 111) [] [], .fn (.func 112) [] []], ldgD l, stsD sts] (.int .i64 (lentL sts l.lends)) := by
 refine PureAt.of_awp Tryz.func113 rfl (by kernel_rfl) (Nat.le_of_ble_eq_true rfl) fun Γ hn hl => ?_
 refine zC (zB ?_)
 refine stepW (zr 3 rfl rfl rfl (nb hn rfl) rfl rfl) fun b3 => ?_
 refine stepW (zr 4 rfl rfl rfl (nb hn rfl) rfl rfl) fun b4 => ?_
 refine sq rfl rfl hn rfl (zF rfl rfl) ?_
 refine zE (zA (zC (zC (zB ?_))))
 refine sq rfl rfl hn rfl (zG rfl rfl) ?_
 refine sq rfl rfl hn rfl (z7 rfl rfl Tryz.underlying167) ?_
 refine sq rfl rfl hn rfl (zG rfl rfl) ?_
 refine zE (zA (zV ?_))
 refine awp_loop_on (ι := {i : Nat // i ≤ sts.length}) (fun x => (6, true, .d (.int .i64 (sumI (((sts.zip l.lends).take x.1).map lentF)))) :: (11, true, .d (.int .i64 (x.1 : Nat))) :: anys [12, 13, 14, 15, 8, 7, 16, 17, 18, 19, 20, 21, 22, 23, 24, 25, 26, 27]) (fun x => gones [8]) (fun x => sts.length - x.1) ⟨0, Nat.zero_le _⟩ ⟨.inl rfl, .inl rfl, zJ _⟩ (zX _) ?_
 rintro ⟨i, hi⟩
 dsimp only
 refine zC (zB ?_)
 refine sq rfl rfl hn rfl (yJ rfl rfl rfl) ?_
 refine zE (zA (zC ?_))
 refine zS rfl (fun hb0 => ?_) (fun hb0 => ?_)
 ·
  have hlt : i < sts.length := by simpa using hb0
  obtain ⟨p, hx⟩ := z2 hlt
  obtain ⟨bl, hbl⟩ := z2 (show i < l.lends.length by omega)
  have hz := zEK hx hbl
  have hp := hp5 p (List.mem_of_getElem? hx)
  have hb5 := lent_bd (z := (sts.zip l.lends).take i) fun x hx => (hp5 x.1 (List.of_mem_zip (List.mem_of_mem_take hx)).1).2
  have hb6 : ((sts.zip l.lends).take i).length ≤ 4 := by simp; omega
  refine zU (zA (zC (zV (zC (zB ?_)))))
  refine sq rfl rfl hn rfl (zG rfl rfl) ?_
  refine sq rfl rfl hn rfl (q_index (i := i) rfl rfl rfl Tryz.underlying167 sz169 rfl (mget hx)) ?_
  refine sq rfl rfl hn rfl (ze rfl rfl Tryz.underlying169 rfl sz169 rfl rfl seesF0) ?_
  refine stepW (zh 8 rfl rfl rfl (nb hn rfl) zr169 rfl rfl) fun b8 => ?_
  refine sq rfl rfl hn rfl (zF rfl rfl) ?_
  refine stepW (zl rfl rfl rfl rfl rfl rfl (id := 8) rfl sz169 rfl (Nat.le_of_ble_eq_true rfl) rfl trivial) fun _ => ?_
  refine zE (zA (zC (zB ?_)))
  refine sq rfl rfl hn rfl (zH rfl rfl Tryz.underlying173 rfl sz171) ?_
  refine sq rfl rfl hn rfl (zQ rfl rfl (id := 3) rfl Tryz.underlying171 rfl rfl sees0) ?_
  refine sq rfl rfl hn rfl (zY rfl rfl (id := 4) rfl Tryz.underlying50 rfl sz50 rfl rfl sees0) ?_
  refine sq rfl rfl hn rfl (zG rfl rfl) ?_
  refine stepW (s_call [] (fun _ => lender_ok _ _ _ hbl) rfl (zI rfl) rfl (nb hn rfl) (fun _ => trivial) rfl rfl (.refl _)) fun _ => ?_
  refine zE (zA ?_)
  refine yR (e := .normal) (ι := Unit) (fun x => (6, true, .d (.int .i64 (sumI (((sts.zip l.lends).take (i + 1)).map lentF)))) :: anys [21, 22, 23, 24, 25, 26]) (fun x => []) (fun hJ1 => ?_) ?_
  ·
   refine zS rfl (fun hb1 => ?_) (fun hb1 => ?_)
   ·
    have q1 : bl = true := hb1
    refine zB ?_
    refine sq rfl rfl hn rfl (zG rfl rfl) ?_
    refine sq rfl rfl hn rfl (zH rfl rfl Tryz.underlying173 rfl sz170) ?_
    refine sq rfl rfl hn rfl (zQ rfl rfl (id := 3) rfl Tryz.underlying170 rfl rfl sees0) ?_
    refine sq rfl rfl hn rfl (zY rfl rfl (id := 8) rfl Tryz.underlying169 rfl sz169 rfl rfl sees0) ?_
    refine stepW (s_call [] (fun _ => lends_ok _ _) rfl (zI rfl) rfl (nb hn rfl) (fun _ => trivial) rfl rfl (.refl _)) fun _ => ?_
    refine sq rfl rfl hn rfl (z6 rfl rfl rfl (r := sumI (((sts.zip l.lends).take (i + 1)).map lentF)) (by rw [zCw hz, show lentF (p, bl) = max 0 (min p.2 p.1) from if_pos q1]; exact i64w (by omega) rfl)) ?_
    refine sq rfl rfl hn rfl (zF rfl rfl) ?_
    refine zE ?_
    exact aend_join_on hJ1 () ⟨.inl rfl, zJ _⟩ trivial (by repeat (first | exact kr _ | refine kc rfl ?_)) (by repeat (first | exact kr _ | refine kc rfl ?_))
   ·
    have q1 : bl = false := hb1
    have hq7 : sumI (((sts.zip l.lends).take i).map lentF) = sumI (((sts.zip l.lends).take (i + 1)).map lentF) := by rw [zCw hz, show lentF (p, bl) = 0 from if_neg (by simp [q1]), Int.add_zero]
    refine zU ?_
    exact aend_join_on hJ1 () ⟨.inl (congrArg (fun n : Int => some (true, TV.d (.int .i64 n))) hq7), zJ _⟩ trivial (by repeat (first | exact kr _ | refine kc rfl ?_)) (by repeat (first | exact kr _ | refine kc rfl ?_))
  ·
   rintro _
   refine za (zA (zB ?_))
   refine sq rfl rfl hn rfl (z6 rfl rfl rfl (r := ((i + 1 : Nat) : Int)) (i64w (by omega) (by omega))) ?_
   refine sq rfl rfl hn rfl (zG rfl rfl) ?_
   refine zE ?_
   exact zZ ⟨i + 1, by omega⟩ ⟨.inl rfl, .inl rfl, zJ _⟩ (zX _) (by simp only; omega) (by repeat (first | exact kr _ | refine kc rfl ?_)) (by repeat (first | exact kr _ | refine kc rfl ?_))
 ·
  have hie : i = sts.length := by simp only [List.length_map, decide_eq_false_iff_not] at hb0; omega
  subst hie
  refine zw (zK (zK (zW (zA (zC (zB ?_))))))
  refine sq rfl rfl hn rfl (zG rfl rfl) ?_
  refine sq rfl rfl hn rfl (zF rfl rfl) ?_
  refine zE (zA (zO ?_))
  refine zp (zt (.inl rfl) hl rfl (.tmp rfl)) ?_
  rw [List.take_of_length_le (by simp [List.length_zip]; omega)]; rfl
end Go.Proofs.YtaokpncjemkhcaaGreat
namespace Go.Proofs.YtaokpncjemkhcaaGreat
set_option linter.all false
/-- What each house had, and what is left. -/
def stsF (hand : List Int) (qs : List Due8) (d : List Int) (N : Nat) : List (Int × Int) := (List.range N).map fun i => (hand.getD i 0, leftH hand qs d i)
theorem y4 {hand : List Int} {qs : List Due8} {d : List Int} {N : Nat} : (stsF hand qs d N).length = N := by simp [stsF]
theorem zAY {hand : List Int} {qs : List Due8} {d : List Int} {N i : Nat} (h : i < N) : (stsF hand qs d N)[i]? = some (hand.getD i 0, leftH hand qs d i) := by
  unfold stsF; rw [List.getElem?_map, List.getElem?_range h]; rfl
theorem net_take {qs : List Due8} {d : List Int} {k : Nat} {q : Due8} {x : Int} (hq : qs[k]? = some q) (hx : d[k]? = some x) (hl : d.length = qs.length) (h : Int) :
    netH (qs.take (k + 1)) (d.take (k + 1)) h = netH (qs.take k) (d.take k) h + ((if q.to = h then x else 0) - (if q.frm = h then x else 0)) := by
  have h1 := (List.getElem?_eq_some_iff.1 hq).1
  rw [List.take_add_one, List.take_add_one, hq, hx, zBm _ _ _ _ _ (by simp; omega)]
  simp [netH]
theorem sts_step {hand : List Int} {qs : List Due8} {d : List Int} {N k f t : Nat} {q : Due8} {x : Int} (hq : qs[k]? = some q) (hx : d[k]? = some x) (hl : d.length = qs.length) (hf : q.frm = (f : Nat)) (ht : q.to = (t : Nat)) (hft : f ≠ t) (hfN : f < N) (htN : t < N) :
    ((stsF hand (qs.take k) (d.take k) N).set f (hand.getD f 0, leftH hand (qs.take k) (d.take k) f - x)).set t (hand.getD t 0, leftH hand (qs.take k) (d.take k) t + x) = stsF hand (qs.take (k + 1)) (d.take (k + 1)) N := by
  apply List.ext_getElem?
  intro i
  rw [List.getElem?_set, List.getElem?_set, List.length_set, y4]
  by_cases hi : i < N
  · rw [zAY hi, zAY hi]
    simp only [leftH, net_take hq hx hl, hf, ht]
    by_cases e1 : t = i
    · subst e1
      rw [if_pos rfl, if_pos hi, if_pos rfl, if_neg (by omega)]
      congr 2; omega
    · rw [if_neg e1, if_neg (show ¬ ((t : Nat) : Int) = (i : Int) by omega)]
      by_cases e2 : f = i
      · subst e2
        rw [if_pos rfl, if_pos hi, if_pos rfl]
        congr 2; omega
      · rw [if_neg e2, if_neg (show ¬ ((f : Nat) : Int) = (i : Int) by omega)]
        congr 2; omega
  · rw [if_neg (by omega), if_neg (by omega)]
    have h1 : (stsF hand (qs.take k) (d.take k) N)[i]? = none := List.getElem?_eq_none (by rw [y4]; omega)
    have h2 : (stsF hand (qs.take (k + 1)) (d.take (k + 1)) N)[i]? = none := List.getElem?_eq_none (by rw [y4]; omega)
    rw [h1, h2]
theorem zEU : ∀ {qs : List Due8} {d : List Int} {h : Int}, (∀ x ∈ d, 0 ≤ x ∧ x ≤ 4) → -(4 * (qs.length : Int)) ≤ netH qs d h ∧ netH qs d h ≤ 4 * qs.length
  | [], _, _, _ => by simp [netH]
  | _ :: _, [], _, _ => by simp [netH]; omega
  | q :: qs, x :: xs, h, hx => by
    have h1 := hx x List.mem_cons_self
    have h2 := zEU (qs := qs) (d := xs) (h := h) fun y hy => hx y (List.mem_cons_of_mem _ hy)
    simp only [netH, List.length_cons]
    split <;> split <;> omega
end Go.Proofs.YtaokpncjemkhcaaGreat
namespace Go.Proofs.YtaokpncjemkhcaaGreat
open Go.RowKit
set_option linter.all false
@[reducible] def rngE (r : Int × Int) : List D := [.int .i64 r.1, .int .i64 r.2]
section
variable {α : Type} {k : Nat}
theorem zBS : ∀ {rows : List (List α)}, (∀ r ∈ rows, r.length = k) → rows.flatten.length = rows.length * k
  | [], _ => by simp
  | r :: rows, h => by
    rw [List.flatten_cons, List.length_append, zBS fun x hx => h x (List.mem_cons_of_mem _ hx), h r List.mem_cons_self, List.length_cons, Nat.add_mul, Nat.one_mul, Nat.add_comm]
theorem zDJ : ∀ {rows : List (List α)} {i : Nat}, (∀ r ∈ rows, r.length = k) → rows.flatten.drop (i * k) = (rows.drop i).flatten
  | [], _, _ => by simp
  | r :: rows, 0, _ => by simp
  | r :: rows, i + 1, h => by
    have hr := h r List.mem_cons_self
    rw [List.flatten_cons, Nat.add_mul, Nat.one_mul, Nat.add_comm, ← List.drop_drop, List.drop_append_of_le_length (by omega), List.drop_of_length_le (l := r) (by omega), List.nil_append, zDJ fun x hx => h x (List.mem_cons_of_mem _ hx)]
    rfl
theorem zEB : ∀ {rows : List (List α)} {i : Nat}, (∀ r ∈ rows, r.length = k) → rows.flatten.take (i * k) = (rows.take i).flatten
  | [], _, _ => by simp
  | r :: rows, 0, _ => by simp
  | r :: rows, i + 1, h => by
    have hr := h r List.mem_cons_self
    rw [List.flatten_cons, List.take_succ_cons, List.flatten_cons, Nat.add_mul, Nat.one_mul, Nat.add_comm, List.take_append, List.take_of_length_le (l := r) (by omega), hr, Nat.add_sub_cancel_left, zEB fun x hx => h x (List.mem_cons_of_mem _ hx)]
theorem fl_seg {rows : List (List α)} {i : Nat} {r : List α} (h : ∀ r ∈ rows, r.length = k) (hi : rows[i]? = some r) : (rows.flatten.drop (i * k)).take k = r := by
  obtain ⟨hlt, rfl⟩ := List.getElem?_eq_some_iff.1 hi
  have hr := h _ (List.getElem_mem hlt)
  rw [zDJ h, List.drop_eq_getElem_cons hlt, List.flatten_cons, List.take_append_of_le_length (by omega), List.take_of_length_le (by omega)]
theorem zEY {rows : List (List α)} {i j : Nat} {r : List α} (h : ∀ r ∈ rows, r.length = k) (hi : rows[i]? = some r) (hj : j < k) : rows.flatten[i * k + j]? = r[j]? := by
  rw [← fl_seg h hi, List.getElem?_take, if_pos hj, List.getElem?_drop]
theorem zEV {rows : List (List α)} {i : Nat} {x : List α} (h : ∀ r ∈ rows, r.length = k) (hi : i < rows.length) : rows.flatten.take (i * k) ++ x ++ rows.flatten.drop (i * k + k) = (rows.set i x).flatten := by
  rw [show i * k + k = (i + 1) * k by rw [Nat.add_mul, Nat.one_mul], zEB h, zDJ h, List.set_eq_take_append_cons_drop, if_pos hi, List.flatten_append, List.flatten_cons, List.append_assoc]
theorem fl_set {rows : List (List α)} {i j : Nat} {r : List α} {c : α} (h : ∀ r ∈ rows, r.length = k) (hi : rows[i]? = some r) (hj : j < k) : rows.flatten.set (i * k + j) c = (rows.set i (r.set j c)).flatten := by
  obtain ⟨hlt, rfl⟩ := List.getElem?_eq_some_iff.1 hi
  have hr := h _ (List.getElem_mem hlt)
  rw [← zEV h hlt]
  apply List.ext_getElem?
  intro n
  have hfl := zBS h
  have hik : i * k + k ≤ rows.flatten.length := by
    rw [hfl]
    calc i * k + k = (i + 1) * k := by rw [Nat.add_mul, Nat.one_mul]
      _ ≤ rows.length * k := Nat.mul_le_mul_right k hlt
  have hl1 : (rows.flatten.take (i * k)).length = i * k := by rw [List.length_take]; omega
  have hl2 : (rows[i].set j c).length = k := by rw [List.length_set]; exact hr
  rw [List.getElem?_set, List.append_assoc]
  by_cases h1 : n < i * k
  · rw [if_neg (by omega), List.getElem?_append_left (by omega), List.getElem?_take, if_pos h1]
  · rw [List.getElem?_append_right (by omega), hl1]
    by_cases h2 : n < i * k + k
    · rw [List.getElem?_append_left (by omega), List.getElem?_set, hr]
      by_cases e : i * k + j = n
      · rw [if_pos e, if_pos (by omega), if_pos (by omega), if_pos (by omega)]
      · rw [if_neg e, if_neg (by omega)]
        have := zEY h hi (show n - i * k < k by omega)
        rw [show i * k + (n - i * k) = n by omega] at this
        exact this
    · rw [List.getElem?_append_right (by omega), hl2, List.getElem?_drop, if_neg (by omega), show i * k + k + (n - i * k - k) = n by omega]
end
theorem zAG {k : Nat} : ∀ {rows : List (List D)}, (∀ r ∈ rows, r.length = k) → chunk k rows.length rows.flatten = rows
  | [], _ => rfl
  | r :: rows, h => by
    have hr := h r List.mem_cons_self
    rw [List.length_cons, chunk, List.flatten_cons, List.take_append_of_le_length (by omega), List.take_of_length_le (by omega), List.drop_append_of_le_length (by omega), List.drop_of_length_le (l := r) (by omega), List.nil_append, zAG fun x hx => h x (List.mem_cons_of_mem _ hx)]
@[reducible] def rngT (l : List (Int × Int)) : List TV := (l.map rngE).flatten.map .d
theorem kj {l : List (Int × Int)} : ∀ r ∈ l.map rngE, r.length = 2 := fun r h => by
  obtain ⟨m, _, rfl⟩ := List.mem_map.1 h
  rfl
theorem zCS {l : List (Int × Int)} : (rngT l).length = l.length * 2 := by rw [List.length_map, zBS kj, List.length_map]
theorem rng_zero (n : Nat) : (List.replicate n [TV.d (.int .i64 0), .d (.int .i64 0)]).flatten = rngT (List.replicate n (0, 0)) := by
  rw [rngT, List.map_replicate, List.map_flatten, List.map_replicate]; rfl
theorem rng_put {l : List (Int × Int)} {i : Nat} {a b : Int} (h : i < l.length) : (rngT l).take (0 + i * 2) ++ (TV.d (.agg (rngE (a, b)))).cells ++ (rngT l).drop (0 + i * 2 + 2) = rngT (l.set i (a, b)) := by
  have := congrArg (List.map TV.d) (zEV (i := i) (x := rngE (a, b)) kj (by rw [List.length_map]; exact h))
  rw [List.map_append, List.map_append, List.map_take, List.map_drop] at this
  rw [Nat.zero_add, rngT, rngT, List.map_set]
  exact this
theorem rng_le {l : List (Int × Int)} {i : Nat} (h : i < l.length) : 0 + i * 2 + 2 ≤ (rngT l).length := by rw [zCS]; omega
theorem zEb {l : List (Int × Int)} {i : Nat} {r : Int × Int} (h : l[i]? = some r) : (rngT l)[0 + i * 2 + 1]? = some (.d (.int .i64 r.2)) := by
  rw [Nat.zero_add, List.getElem?_map, zEY kj (show (l.map rngE)[i]? = some (rngE r) by rw [List.getElem?_map, h]; rfl) (by omega)]
  rfl
theorem zC3 {l : List (Int × Int)} {i : Nat} {r : Int × Int} {a : Int} (h : l[i]? = some r) : (rngT l).set (0 + i * 2 + 1) (.d (.int .i64 a)) = rngT (l.set i (r.1, a)) := by
  have h1 := fl_set (j := 1) (c := D.int .i64 a) kj (show (l.map rngE)[i]? = some (rngE r) by rw [List.getElem?_map, h]; rfl) (by omega)
  rw [Nat.zero_add]
  show ((l.map rngE).flatten.map TV.d).set (i * 2 + 1) (TV.d (.int .i64 a)) = ((l.set i (r.1, a)).map rngE).flatten.map TV.d
  rw [← List.map_set, h1, List.map_set]; rfl
end Go.Proofs.YtaokpncjemkhcaaGreat
namespace Go.Proofs.YtaokpncjemkhcaaGreat
open Go.RowKit
set_option maxRecDepth 20000
set_option linter.all false
def ini (hand : List Int) (x N : Nat) : List (Int × Int) := (List.range N).map fun i => if i < x then (hand.getD i 0, hand.getD i 0) else (0, 0)
theorem zA7 {hand : List Int} {x N : Nat} : (ini hand x N).length = N := by simp [ini]
theorem ini_zero {hand : List Int} {N : Nat} : ini hand 0 N = List.replicate N (0, 0) := by
  apply List.ext_getElem?; intro i
  unfold ini; rw [List.getElem?_map, List.getElem?_replicate]
  by_cases h : i < N
  · rw [List.getElem?_range h, if_pos h]; simp
  · rw [List.getElem?_eq_none (by simp; omega), if_neg h]; rfl
theorem ini_step {hand : List Int} {x N : Nat} (h : x < N) : (ini hand x N).set x (hand.getD x 0, hand.getD x 0) = ini hand (x + 1) N := by
  apply List.ext_getElem?; intro i
  rw [List.getElem?_set, zA7]
  by_cases hi : i < N
  · unfold ini
    rw [List.getElem?_map, List.getElem?_map, List.getElem?_range hi]
    by_cases e : x = i
    · subst e; simp [h]
    · rw [if_neg e]
      by_cases e2 : i < x
      · simp [e2, show i < x + 1 by omega]
      · simp [e2, show ¬ i < x + 1 by omega]
  · rw [if_neg (by omega), List.getElem?_eq_none (by rw [zA7]; omega), List.getElem?_eq_none (by rw [zA7]; omega)]
theorem ini_end {hand : List Int} {N : Nat} : ini hand N N = stsF hand [] [] N := by
  unfold ini stsF
  apply List.map_congr_left
  intro i hi
  rw [List.mem_range] at hi
  rw [if_pos hi]; simp [leftH, netH]
theorem zDE {l : Ldg} {h d : List Int} {i : Nat} (hh : ∀ i, 0 ≤ h.getD i 0 ∧ h.getD i 0 ≤ 4) (hd : ∀ x ∈ d, 0 ≤ x ∧ x ≤ 4) (hl : l.dues.length ≤ 6) (k : Nat) : -100 ≤ leftH h (l.dues.take i) (d.take i) k ∧ leftH h (l.dues.take i) (d.take i) k ≤ 100 := by
  have h1 := zEU (qs := l.dues.take i) (d := d.take i) (h := (k : Int)) fun x hx => hd x (List.mem_of_mem_take hx)
  have h2 : (l.dues.take i).length ≤ 6 := by simp; omega
  have h3 := hh k
  unfold leftH; omega
theorem sts_all {l : Ldg} {h d : List Int} {N : Nat} (hh : ∀ i, 0 ≤ h.getD i 0 ∧ h.getD i 0 ≤ 4) (hd : ∀ x ∈ d, 0 ≤ x ∧ x ≤ 4) (hl : l.dues.length ≤ 6) (hl5 : d.length = l.dues.length) : ∀ p ∈ stsF h l.dues d N, -1000 ≤ p.2 ∧ p.2 ≤ 1000 := fun p hp => by
  unfold stsF at hp
  obtain ⟨k, _, rfl⟩ := List.mem_map.1 hp
  have := zDE (l := l) (h := h) (d := d) (i := l.dues.length) hh hd hl k
  rw [List.take_length, ← hl5, List.take_length] at this
  simp only; omega
theorem zAq (f : Nat → Int) : ∀ n, sumI ((List.range n).map f) = sumN f n
  | 0 => rfl
  | n + 1 => by rw [List.range_succ, List.map_append, kB, zAq f n]; simp [sumI, sumN]
theorem can_sums {l : Ldg} {h d : List Int} {N : Nat} (hl7 : l.lends.length = N) : decide (lackL (stsF h l.dues d N) ≤ lentL (stsF h l.dues d N) l.lends) = canP N (fun i => l.lends.getD i false) h l.dues d := by
  unfold canP
  have h1 : lackL (stsF h l.dues d N) = lackP N (leftH h l.dues d) := by
    unfold lackL stsF lackP; rw [List.map_map, ← zAq]; rfl
  have h2 : lentL (stsF h l.dues d N) l.lends = lentP N (fun i => l.lends.getD i false) (fun i => h.getD i 0) (leftH h l.dues d) := by
    unfold lentL lentP; rw [← zAq]
    congr 1
    apply List.ext_getElem?
    intro i
    rw [List.getElem?_map, List.getElem?_map]
    by_cases hi : i < N
    · obtain ⟨b, hb⟩ := z2 (show i < l.lends.length by omega)
      rw [zEK (zAY hi) hb, List.getElem?_range hi]
      simp [lentF, List.getD_eq_getElem?_getD, hb]
    · rw [List.getElem?_eq_none (by simp [y4]; omega), List.getElem?_eq_none (by simp; omega)]; rfl
  rw [h1, h2]
theorem zCf {h : List Int} {i : Nat} (hi : i < 4) : (TV.d (handD h)).cells[0 + i * 1]? = some (.d (.int .i64 (h.getD i 0))) := by
  have : i = 0 ∨ i = 1 ∨ i = 2 ∨ i = 3 := by omega
  rcases this with rfl | rfl | rfl | rfl <;> rfl
theorem sz173 : Sz Tryz.prog 173 2 := (by kernel_rfl : (Tryz.prog.info? 173).map (·.size) = some 2)
theorem zr173 : (Tryz.prog.info? 173).map (·.zero) = some (some (.agg #[.nilFunc, .nilFunc])) := by kernel_rfl
theorem bt169 : BT Tryz.prog 169 (.agg #[(.int .i64 0), (.int .i64 0)]) (fun i => ([(0, 1), (1, 1)] : List (Nat × Nat))[i]?) := yO Tryz.underlying169 zr169 (by kernel_rfl)
theorem bt173 : BT Tryz.prog 173 (.agg #[.nilFunc, .nilFunc]) (fun i => ([(0, 1), (1, 1)] : List (Nat × Nat))[i]?) := yO Tryz.underlying173 zr173 (by kernel_rfl)
theorem can8_ok (l : Ldg) (h d : List Int) (N : Nat) (hN5 : l.reg.houses = (N : Int)) (hN6 : N ≤ 4) (hh5 : ∀ i, 0 ≤ h.getD i 0 ∧ h.getD i 0 ≤ 4) (hd5 : ∀ x ∈ d, 0 ≤ x ∧ x ≤ 4) (hl5 : d.length = l.dues.length) (hl6 : l.dues.length ≤ 6) (hq5 : ∀ q ∈ l.dues, 0 ≤ q.frm ∧ q.frm < N ∧ 0 ≤ q.to ∧ q.to < N ∧ q.frm ≠ q.to) (hl7 : l.lends.length = N) : PureAt Tryz.prog 81 [ldgD l, handD h, ints d] (.bool (canP N (fun i => l.lends.getD i false) h l.dues d)) := by
 refine PureAt.of_awp Tryz.func81 rfl (by kernel_rfl) (Nat.le_of_ble_eq_true rfl) fun Γ hn hl => ?_
 refine zC (zB ?_)
 refine stepW (zr 3 rfl rfl rfl (nb hn rfl) rfl rfl) fun b3 => ?_
 refine stepW (zr 4 rfl rfl rfl (nb hn rfl) rfl rfl) fun b4 => ?_
 refine sq rfl rfl hn rfl (zF rfl rfl) ?_
 refine zE (zA (zC (zB ?_)))
 refine sq rfl rfl hn rfl (zH rfl rfl Tryz.underlying50 rfl sz44) ?_
 refine sq rfl rfl hn rfl (zH rfl rfl Tryz.underlying44 rfl sz3) ?_
 refine sq rfl rfl hn rfl (zQ rfl rfl (id := 3) rfl Tryz.underlying3 rfl rfl sees0) ?_
 refine stepW (kW (n := N) 16 rfl rfl rfl (nb hn rfl) Tryz.underlying167 (show _ = some (some (.agg #[(.int .i64 0), (.int .i64 0)]), 2, 16) from by kernel_rfl) rfl rfl rfl (by decide) rfl rfl hN5 hN5 (by omega) (by omega) (by omega)) fun b16 => ?_
 refine sq rfl rfl hn rfl (zF rfl rfl) ?_
 refine zE (zA (zC (zC (zB ?_))))
 refine sq rfl rfl hn rfl (zG rfl rfl) ?_
 refine sq rfl rfl hn rfl (q_lenV rfl rfl Tryz.underlying167) ?_
 refine sq rfl rfl hn rfl (zG rfl rfl) ?_
 refine zE (zA (zV ?_))
 refine awp_loop_on (ι := {x : Nat // x ≤ N}) (fun x => (19, true, .d (.int .i64 (x.1 : Nat))) :: anys [20, 21, 8, 22, 23, 24, 25, 26, 27, 28, 29, 30, 31, 32]) (fun x => [(16, .box b16 169 (rngT (ini h x.1 N)))]) (fun x => N - x.1) ⟨0, Nat.zero_le _⟩ ⟨.inl rfl, zJ _⟩ ⟨.inl (congrArg (fun z => some (Res.box b16 169 z)) ((rng_zero _).trans (congrArg rngT ini_zero.symm))), trivial⟩ ?_
 rintro ⟨i, hi⟩
 dsimp only
 refine zC (zB ?_)
 refine sq rfl rfl hn rfl (yJ rfl rfl rfl) ?_
 refine zE (zA (zC ?_))
 refine zS rfl (fun hb0 => ?_) (fun hb0 => ?_)
 ·
  have hil : i < N := by simp at hb0; omega
  have hhi := hh5 i
  refine zU (zA (zC (zV (zC (zB ?_)))))
  refine sq rfl rfl hn rfl (zG rfl rfl) ?_
  refine sq rfl rfl hn rfl (zF rfl rfl) ?_
  refine zE (zA ?_)
  refine yC (W := fun b => b ≠ b4) fmo ?_
  refine d1q (i := 0) rfl (by kernel_rfl) (fun _ _ _ _ h => h) rfl rfl hn rfl (zG rfl rfl) ?_
  refine d1q (i := 1) rfl (by kernel_rfl) (fun _ _ _ _ h => h) rfl rfl hn rfl (zG rfl rfl) ?_
  refine d1q (i := 2) rfl (by kernel_rfl) (fun _ _ _ _ h => h) rfl rfl hn rfl (zG rfl rfl) ?_
  refine d1q (i := 3) rfl (by kernel_rfl) (fun _ _ _ _ h => h) rfl rfl hn rfl (q_indexA (i := i) rfl rfl rfl Tryz.underlying121 sz3 rfl (by omega)) ?_
  refine d1q (i := 4) rfl (by kernel_rfl) (fun _ _ _ _ h => h) rfl rfl hn rfl (zQ rfl rfl (id := 4) rfl Tryz.underlying3 rfl (zCf (by omega)) (seesA (by simp))) ?_
  refine d1q (i := 5) rfl (by kernel_rfl) (fun _ _ _ _ h => h) rfl rfl hn rfl (zG rfl rfl) ?_
  refine d1q (i := 6) rfl (by kernel_rfl) (fun _ _ _ _ h => h) rfl rfl hn rfl (q_indexA (i := i) rfl rfl rfl Tryz.underlying121 sz3 rfl (by omega)) ?_
  refine d1q (i := 7) rfl (by kernel_rfl) (fun _ _ _ _ h => h) rfl rfl hn rfl (zQ rfl rfl (id := 4) rfl Tryz.underlying3 rfl (zCf (by omega)) (seesA (by simp))) ?_
  refine d1q (i := 8) rfl (by kernel_rfl) (fun _ _ _ _ h => h) rfl rfl hn rfl (zg rfl bt169 rfl rfl rfl rfl rfl) ?_
  refine d1q (i := 9) rfl (by kernel_rfl) (fun _ _ _ _ h => h) rfl rfl hn rfl (q_indexV (i := i) rfl rfl rfl Tryz.underlying167 sz169 rfl (by omega)) ?_
  refine zM ?_
  refine kH (i := 16) (j := 4) rfl rfl rfl (fun hne16_4 => ?_)
  refine zk (i := 10) (by kernel_rfl) rfl (zl rfl rfl rfl rfl rfl rfl (id := 16) rfl sz169 rfl (rng_le (l := ini h i N) (i := i) (by rw [zA7]; omega)) ((rng_put (l := ini h i N) (i := i) (by rw [zA7]; omega)).trans (congrArg rngT (ini_step hil))) (fun e => hne16_4 _ rfl (congrArg some e.symm))) fun _ => ?_
  refine d2_of_d1 (zM ?_)
  refine zv (by kernel_rfl) ?_
  refine za (zA (zB ?_))
  refine sq rfl rfl hn rfl (z6 rfl rfl rfl (r := ((i + 1 : Nat) : Int)) (i64w (by omega) (by omega))) ?_
  refine sq rfl rfl hn rfl (zG rfl rfl) ?_
  refine zE ?_
  exact zZ ⟨i + 1, by omega⟩ ⟨.inl rfl, zJ _⟩ ⟨.inl rfl, trivial⟩ (by simp only; omega) (by repeat (first | exact kr _ | refine kc rfl ?_)) (by repeat (first | exact kr _ | refine kc rfl ?_))
 ·
  obtain rfl : N = i := by simp at hb0; omega
  rw [ini_end]
  refine zw (zK (zK (zW (zA (zC (zC (zB ?_)))))))
  refine sq rfl rfl hn rfl (zH rfl rfl Tryz.underlying50 rfl sz48) ?_
  refine sq rfl rfl hn rfl (zQ rfl rfl (id := 3) rfl Tryz.underlying48 rfl rfl sees0) ?_
  refine sq rfl rfl hn rfl (z7 rfl rfl Tryz.underlying48) ?_
  refine sq rfl rfl hn rfl (zG rfl rfl) ?_
  refine zE (zA (zV ?_))
  refine awp_loop_on (ι := {x : Nat // x ≤ l.dues.length}) (fun x => (36, true, .d (.int .i64 (x.1 : Nat))) :: anys [37, 38, 39, 40, 10, 9, 41, 42, 43, 44, 45, 46, 47, 48, 49, 50, 51, 52, 53, 54, 55, 56, 57, 58, 59, 60, 61, 62, 63, 64, 65, 66, 67]) (fun x => (16, .box b16 169 (rngT (stsF h (l.dues.take x.1) (d.take x.1) N))) :: gones [10]) (fun x => l.dues.length - x.1) ⟨0, Nat.zero_le _⟩ ⟨.inl rfl, zJ _⟩ ⟨.inl rfl, zX _⟩ ?_
  rintro ⟨i, hi⟩
  dsimp only
  refine zC (zB ?_)
  refine sq rfl rfl hn rfl (yJ rfl rfl rfl) ?_
  refine zE (zA (zC ?_))
  refine zS rfl (fun hb1 => ?_) (fun hb1 => ?_)
  ·
   have hil : i < l.dues.length := by simp at hb1; omega
   obtain ⟨⟨qf, qt, qn⟩, hq⟩ := z2 hil
   obtain ⟨x, hx⟩ := z2 (show i < d.length by omega)
   have hqo := hq5 _ (List.mem_of_getElem? hq)
   simp only at hqo
   obtain ⟨f, rfl⟩ : ∃ f : Nat, qf = f := ⟨qf.toNat, by omega⟩
   obtain ⟨t, rfl⟩ : ∃ t : Nat, qt = t := ⟨qt.toNat, by omega⟩
   have hft : f ≠ t := by omega
   have hfN : f < N := by omega
   have htN : t < N := by omega
   have hx5 := hd5 x (List.mem_of_getElem? hx)
   have hbf := zDE (l := l) (h := h) (d := d) (i := i) hh5 hd5 hl6 f
   have hbt := zDE (l := l) (h := h) (d := d) (i := i) hh5 hd5 hl6 t
   have hgt : ((stsF h (l.dues.take i) (d.take i) N).set f (h.getD f 0, leftH h (l.dues.take i) (d.take i) f - x))[t]? = some (h.getD t 0, leftH h (l.dues.take i) (d.take i) t) := by rw [List.getElem?_set, if_neg (by omega)]; exact zAY htN
   refine zU (zA (zC (zV (zC (zB ?_)))))
   refine sq rfl rfl hn rfl (zG rfl rfl) ?_
   refine sq rfl rfl hn rfl (q_index (i := i) rfl rfl rfl Tryz.underlying48 sz88 rfl (mget hq)) ?_
   refine sq rfl rfl hn rfl (ze rfl rfl Tryz.underlying88 rfl sz88 rfl rfl seesF0) ?_
   refine stepW (zh 10 rfl rfl rfl (nb hn rfl) zr88 rfl rfl) fun b10 => ?_
   refine sq rfl rfl hn rfl (zF rfl rfl) ?_
   refine stepW (zl rfl rfl rfl rfl rfl rfl (id := 10) rfl sz88 rfl (Nat.le_of_ble_eq_true rfl) rfl trivial) fun _ => ?_
   refine zE (zA (zC ?_))
   refine yR (e := .normal) (ι := Unit) (fun u0 => anys [41, 42, 43, 44, 45, 46, 47, 48, 49, 50, 51, 52, 53]) (fun u0 => [(16, .box b16 169 (rngT ((stsF h (l.dues.take i) (d.take i) N).set f (h.getD f 0, leftH h (l.dues.take i) (d.take i) f - x))))]) (fun hJ2 => ?_) ?_
   ·
    refine yC (W := fun b => b ≠ b10) fmo ?_
    refine d1q (i := 0) rfl (by kernel_rfl) (fun _ _ _ _ h => h) rfl rfl hn rfl (zG rfl rfl) ?_
    refine d1q (i := 1) rfl (by kernel_rfl) (fun _ _ _ _ h => h) rfl rfl hn rfl (zH rfl rfl Tryz.underlying88 rfl sz3) ?_
    refine d1q (i := 2) rfl (by kernel_rfl) (fun _ _ _ _ h => h) rfl rfl hn rfl (zQ rfl rfl (id := 10) rfl Tryz.underlying3 rfl rfl (seesA (by simp))) ?_
    refine d1q (i := 3) rfl (by kernel_rfl) (fun _ _ _ _ h => h) rfl rfl hn rfl (q_indexV (i := f) rfl rfl rfl Tryz.underlying167 sz169 rfl (by omega)) ?_
    refine d1q (i := 4) rfl (by kernel_rfl) (fun _ _ _ _ h => h) rfl rfl hn rfl (zH rfl rfl Tryz.underlying169 rfl sz3) ?_
    refine d1q (i := 6) rfl (by kernel_rfl) (fun _ _ _ _ h => h) rfl rfl hn rfl (zG rfl rfl) ?_
    refine d1q (i := 7) rfl (by kernel_rfl) (fun _ _ _ _ h => h) rfl rfl hn rfl (zG rfl rfl) ?_
    refine d1q (i := 8) rfl (by kernel_rfl) (fun _ _ _ _ h => h) rfl rfl hn rfl (q_index (i := i) rfl rfl rfl Tryz.underlying22 sz3 rfl (mget hx)) ?_
    refine d1q (i := 9) rfl (by kernel_rfl) (fun _ _ _ _ h => h) rfl rfl hn rfl (zR rfl rfl Tryz.underlying3 rfl seesFA) ?_
    refine zM ?_
    refine zk (i := 5) (by kernel_rfl) rfl (yA _ [] (zI rfl) rfl (nb hn rfl) (fun _ => trivial) (fun _ => zQ rfl rfl (id := 16) rfl Tryz.underlying3 rfl (zEb (zAY hfN)) sees0)) fun _ => ?_
    refine d2_of_d1 ?_
    refine d1q (i := 10) rfl (by kernel_rfl) (fun _ _ _ _ h => h) rfl rfl hn rfl (zAl rfl rfl rfl (r := leftH h (l.dues.take i) (d.take i) f - x) (i64w (by omega) rfl)) ?_
    refine d1q (i := 11) rfl (by kernel_rfl) (fun _ _ _ _ h => h) rfl rfl hn rfl (q_indexV (i := f) rfl rfl rfl Tryz.underlying167 sz169 rfl (by omega)) ?_
    refine d1q (i := 12) rfl (by kernel_rfl) (fun _ _ _ _ h => h) rfl rfl hn rfl (zH rfl rfl Tryz.underlying169 rfl sz3) ?_
    refine zM ?_
    refine kH (i := 16) (j := 10) rfl rfl rfl (fun hne16_10 => ?_)
    refine zk (i := 13) (by kernel_rfl) rfl (s_store1 rfl rfl rfl rfl rfl rfl (id := 16) rfl sz3 (by show 0 + f * 2 + 1 < _; rw [zCS, y4]; omega) (zC3 (zAY hfN)) (fun e => hne16_10 _ rfl (congrArg some e.symm))) fun _ => ?_
    refine d2_of_d1 (zM ?_)
    refine zv (by kernel_rfl) ?_
    exact aend_join_on hJ2 () (zJ _) ⟨.inl rfl, trivial⟩ (by repeat (first | exact kr _ | refine kc rfl ?_)) (by repeat (first | exact kr _ | refine kc rfl ?_))
   ·
    rintro _
    refine zA ?_
    refine yC (W := fun b => b ≠ b10) fmo ?_
    refine d1q (i := 0) rfl (by kernel_rfl) (fun _ _ _ _ h => h) rfl rfl hn rfl (zG rfl rfl) ?_
    refine d1q (i := 1) rfl (by kernel_rfl) (fun _ _ _ _ h => h) rfl rfl hn rfl (zH rfl rfl Tryz.underlying88 rfl sz3) ?_
    refine d1q (i := 2) rfl (by kernel_rfl) (fun _ _ _ _ h => h) rfl rfl hn rfl (zQ rfl rfl (id := 10) rfl Tryz.underlying3 rfl rfl (seesA (by simp))) ?_
    refine d1q (i := 3) rfl (by kernel_rfl) (fun _ _ _ _ h => h) rfl rfl hn rfl (q_indexV (i := t) rfl rfl rfl Tryz.underlying167 sz169 rfl (by omega)) ?_
    refine d1q (i := 4) rfl (by kernel_rfl) (fun _ _ _ _ h => h) rfl rfl hn rfl (zH rfl rfl Tryz.underlying169 rfl sz3) ?_
    refine d1q (i := 6) rfl (by kernel_rfl) (fun _ _ _ _ h => h) rfl rfl hn rfl (zG rfl rfl) ?_
    refine d1q (i := 7) rfl (by kernel_rfl) (fun _ _ _ _ h => h) rfl rfl hn rfl (zG rfl rfl) ?_
    refine d1q (i := 8) rfl (by kernel_rfl) (fun _ _ _ _ h => h) rfl rfl hn rfl (q_index (i := i) rfl rfl rfl Tryz.underlying22 sz3 rfl (mget hx)) ?_
    refine d1q (i := 9) rfl (by kernel_rfl) (fun _ _ _ _ h => h) rfl rfl hn rfl (zR rfl rfl Tryz.underlying3 rfl seesFA) ?_
    refine zM ?_
    refine zk (i := 5) (by kernel_rfl) rfl (yA _ [] (zI rfl) rfl (nb hn rfl) (fun _ => trivial) (fun _ => zQ rfl rfl (id := 16) rfl Tryz.underlying3 rfl (zEb hgt) sees0)) fun _ => ?_
    refine d2_of_d1 ?_
    refine d1q (i := 10) rfl (by kernel_rfl) (fun _ _ _ _ h => h) rfl rfl hn rfl (z6 rfl rfl rfl (r := leftH h (l.dues.take i) (d.take i) t + x) (i64w (by omega) rfl)) ?_
    refine d1q (i := 11) rfl (by kernel_rfl) (fun _ _ _ _ h => h) rfl rfl hn rfl (q_indexV (i := t) rfl rfl rfl Tryz.underlying167 sz169 rfl (by omega)) ?_
    refine d1q (i := 12) rfl (by kernel_rfl) (fun _ _ _ _ h => h) rfl rfl hn rfl (zH rfl rfl Tryz.underlying169 rfl sz3) ?_
    refine zM ?_
    refine kH (i := 16) (j := 10) rfl rfl rfl (fun hne16_10 => ?_)
    refine zk (i := 13) (by kernel_rfl) rfl (s_store1 rfl rfl rfl rfl rfl rfl (id := 16) rfl sz3 (by show 0 + t * 2 + 1 < _; rw [zCS, List.length_set, y4]; omega) ((zC3 hgt).trans (congrArg rngT (sts_step hq hx hl5 rfl rfl hft hfN htN))) (fun e => hne16_10 _ rfl (congrArg some e.symm))) fun _ => ?_
    refine d2_of_d1 (zM ?_)
    refine zv (by kernel_rfl) ?_
    refine za (zA (zB ?_))
    refine sq rfl rfl hn rfl (z6 rfl rfl rfl (r := ((i + 1 : Nat) : Int)) (i64w (by omega) (by omega))) ?_
    refine sq rfl rfl hn rfl (zG rfl rfl) ?_
    refine zE ?_
    exact zZ ⟨i + 1, by omega⟩ ⟨.inl rfl, zJ _⟩ ⟨.inl rfl, zX _⟩ (by simp only; omega) (by repeat (first | exact kr _ | refine kc rfl ?_)) (by repeat (first | exact kr _ | refine kc rfl ?_))
  ·
   obtain rfl : i = l.dues.length := by simp at hb1; omega
   rw [List.take_length, ← hl5, List.take_length]
   refine zw (zK (zK (zW (zA (zC (zB ?_))))))
   refine sq rfl rfl hn rfl (zg rfl bt173 rfl rfl rfl rfl rfl) ?_
   refine sq rfl rfl hn rfl (zg rfl bt173 rfl rfl rfl rfl rfl) ?_
   refine stepW (zh 11 rfl rfl rfl (nb hn rfl) zr173 rfl rfl) fun b11 => ?_
   refine stepW (zh 12 rfl rfl rfl (nb hn rfl) zr173 rfl rfl) fun b12 => ?_
   refine stepW (zl rfl rfl rfl rfl rfl rfl (id := 11) rfl sz173 rfl (Nat.le_of_ble_eq_true rfl) rfl trivial) fun _ => ?_
   refine stepW (zl rfl rfl rfl rfl rfl rfl (id := 12) rfl sz173 rfl (Nat.le_of_ble_eq_true rfl) rfl trivial) fun _ => ?_
   refine zE (zA (zC ?_))
   refine zx (g_freezeV (t := 7) (sz := 2) (n := N) (es := (stsF h l.dues d N).map rngE) 16 rfl rfl (zAn _) (by rw [zBS kj, List.length_map, y4]) (by have := zAG (k := 2) (rows := (stsF h l.dues d N).map rngE) kj; rw [List.length_map, y4] at this; exact this) (Nat.le_refl _) (by simp only [maxLen]; omega)) ?_
   have hP := sts_all (l := l) (h := h) (d := d) (N := N) hh5 hd5 hl6 hl5
   refine yC (W := fun b => b ≠ b3 ∧ b ≠ b11 ∧ b ≠ b12) fmo ?_
   refine d1q (i := 0) rfl (by kernel_rfl) (fun _ _ _ _ h => h) rfl rfl hn rfl (zY rfl rfl (id := 11) rfl Tryz.underlying173 rfl sz173 rfl rfl (seesA (by simp))) ?_
   refine d1q (i := 1) rfl (by kernel_rfl) (fun _ _ _ _ h => h) rfl rfl hn rfl (zY rfl rfl (id := 3) rfl Tryz.underlying50 rfl sz50 rfl rfl (seesA (by simp))) ?_
   refine d1q (i := 2) rfl (by kernel_rfl) (fun _ _ _ _ h => h) rfl rfl hn rfl (zG rfl rfl) ?_
   refine d1q (i := 4) rfl (by kernel_rfl) (fun _ _ _ _ h => h) rfl rfl hn rfl (zY rfl rfl (id := 12) rfl Tryz.underlying173 rfl sz173 rfl rfl (seesA (by simp))) ?_
   refine d1q (i := 5) rfl (by kernel_rfl) (fun _ _ _ _ h => h) rfl rfl hn rfl (zY rfl rfl (id := 3) rfl Tryz.underlying50 rfl sz50 rfl rfl (seesA (by simp))) ?_
   refine d1q (i := 6) rfl (by kernel_rfl) (fun _ _ _ _ h => h) rfl rfl hn rfl (zG rfl rfl) ?_
   refine zM ?_
   refine zk (i := 3) (by kernel_rfl) rfl (s_call [] (fun _ => sumLack_ok l (stsF h l.dues d N) hP (by rw [y4]; exact hN6)) rfl (zI rfl) rfl (nb hn rfl) (fun _ => trivial) rfl rfl (.refl _)) fun _ => ?_
   refine d2_of_d1 (zM ?_)
   refine zk (i := 7) (by kernel_rfl) rfl (s_call [] (fun _ => sumLend_ok l (stsF h l.dues d N) hP (by rw [y4]; exact hN6) (by rw [y4]; exact hl7)) rfl (zI rfl) rfl (nb hn rfl) (fun _ => trivial) rfl rfl (.refl _)) fun _ => ?_
   refine d2_of_d1 ?_
   refine d1q (i := 8) rfl (by kernel_rfl) (fun _ _ _ _ h => h) rfl rfl hn rfl (zBp rfl rfl rfl) ?_
   refine d1q (i := 9) rfl (by kernel_rfl) (fun _ _ _ _ h => h) rfl rfl hn rfl (zF rfl rfl) ?_
   refine zM ?_
   refine zv (by kernel_rfl) ?_
   refine zA (zO ?_)
   refine zp (zt (.inl rfl) hl rfl (.tmp rfl)) ?_
   rw [can_sums hl7]
end Go.Proofs.YtaokpncjemkhcaaGreat
namespace Go.Proofs.YtaokpncjemkhcaaGreat
open Go.RowKit
set_option linter.all false
theorem TReps.split {F : Nat → Nat → Prop} {w : World} : ∀ {ds es : List TV} {vs : List Value}, TReps F w (ds ++ es) vs → ∃ xs ys, vs = xs ++ ys ∧ TReps F w ds xs ∧ TReps F w es ys
  | [], _, vs, h => ⟨[], vs, rfl, rfl, h⟩
  | _ :: ds, _, _, ⟨v, vs', e, h1, h2⟩ => by
    subst e
    obtain ⟨xs, ys, rfl, k1, k2⟩ := TReps.split h2
    exact ⟨v :: xs, ys, rfl, ⟨v, xs, rfl, h1, k1⟩, k2⟩
theorem zAC {w w' : World} {b o : Nat} (h : w'.heap[b]? = w.heap[b]?) : w'.cell? ⟨b, o, none⟩ = w.cell? ⟨b, o, none⟩ := by
  simp only [World.cell?, h]
theorem PureAt.vec {P : Program} {f : FuncId} {ds1 ds2 : List D} {r : D} {u : Value} {sz : Nat} {es : List (List D)} {b n cap id ty : Nat} {cs rest : List TV} (h : PureAt P f (ds1 ++ .slice sz es :: ds2) r) (hr : r.sim = some u) (hn : n = es.length)
    (hc : cs = es.flatten.map .d ++ rest) (hsz : ∀ c ∈ es, c.length = sz) (hcap : n ≤ cap) (hcm : cap ≤ maxLen) :
    EffAt P f (ds1.map .d ++ .val (.slice (some ⟨b, 0, none⟩) n cap) :: ds2.map .d) [(id, .box b ty cs)] (X := Unit) (fun _ => .d r) (fun _ => [(id, .box b ty cs)]) := by
  subst hn hc
  refine ⟨h.1, fun w F vs hv hh => ?_⟩
  obtain ⟨hown, hF, vs0, hheap, hvs, hone⟩ := hh.res id _ (zb _ _ _)
  obtain ⟨xs, ys, rfl, hx, hy⟩ := hv.split
  obtain ⟨v1, zs, rfl, hv1, hz⟩ := hy
  obtain ⟨ps, qs, e0, hps, hqs⟩ := hvs.split
  subst e0
  let F' : Nat → Nat → Prop := fun c o => F c o ∨ (c = b ∧ o < ps.length)
  have hcell : ∀ j v, ps[j]? = some v → w.cell? ⟨b, j, none⟩ = some v := fun j v hj => (yY hheap).trans (by rw [List.getElem?_append_left (List.getElem?_eq_some_iff.1 hj).1]; exact hj)
  have hext : Ext F F' w w := fun c o hf => ⟨.inl hf, rfl⟩
  have hcells : RepCells F' w es.flatten b 0 := RepCells.of_vals (hps.of_d.ext' hext) (fun u hu => hone u (List.mem_append_left _ hu)) fun j v hj => by
    rw [Nat.zero_add]
    exact ⟨hcell j v hj, .inr ⟨rfl, (List.getElem?_eq_some_iff.1 hj).1⟩⟩
  have hrow : Rep F' w (.slice sz es) v1 := by
    simp only [TRep] at hv1
    exact ⟨_, cap, hv1, hcap, hcm, .inr ⟨b, 0, rfl, RepRows.flat.2 ⟨hsz, hcells⟩⟩⟩
  have hargs : RepVals F' w (ds1 ++ .slice sz es :: ds2) (xs ++ v1 :: zs) := (hx.of_d.ext' hext).append ⟨v1, zs, rfl, hrow, hz.of_d.ext' hext⟩
  have hF' : ∀ c o, F' c o → ∃ v, w.cell? ⟨c, o, none⟩ = some v := fun c o hf => by
    rcases hf with hf | ⟨rfl, hlt⟩
    · exact hh.fcell c o hf
    · exact ⟨_, hcell o _ (List.getElem?_eq_getElem hlt)⟩
  have hglob : GOK w (fun _ => False) := fun g hg => by
    obtain ⟨h1, h2, h3⟩ := hh.glob g hg
    exact ⟨h1, fun k => k, h3⟩
  refine (h.2 w F' _ hF' hglob hargs).mono fun e w' ⟨v, F2, e1, hb, hrep, _⟩ => ⟨(), v, F, e1, ?_, ?_⟩
  · exact (kz hr).2 ((kz hr).1 hrep)
  · have hlt : ∀ c o, F c o → c < w.heap.size := fun c o hf => by
      obtain ⟨x, hx⟩ := hh.fcell c o hf
      exact World.block_lt_of_cell? w ⟨c, o, none⟩ hx
    have hsame : Ext F F w w' := fun c o hf => ⟨hf, zAC (hb.block c (hlt c o hf))⟩
    exact {
      os := hb.os
      tape := hb.tape
      output := hb.output
      hsize := hb.size
      old := fun k hk _ => hb.block k hk
      fcell := fun c o hf => by
        obtain ⟨x, hx⟩ := hh.fcell c o hf
        exact ⟨x, ((hsame c o hf).2).trans hx⟩
      keep := fun c o hf => (hsame c o hf).2
      f0 := fun _ _ hf => hf
      fnew := fun _ _ hf _ _ => hf
      glob := hh.glob
      res := fun i r1 hi => by
        by_cases e2 : id = i
        · subst e2
          rw [zb] at hi
          cases hi
          refine ⟨hown, hF, ps ++ qs, (hb.block b (yS hheap)).trans hheap, (hps.append hqs).ext' hsame, hone⟩
        · rw [zm _ _ e2] at hi; cases hi
      sep := hh.sep }
/-- An operation whose guard is known to be true. -/
theorem s_guardT {Γ : Cx} {P : Program} {σ : St} {ops : Array Oper} {o : Oper} {W : Nat → Prop} {X : Type} {S' : X → St} {x : Bool} (hg : GuardOK Γ ops σ o x) (hx : x = true) (h : StepW Γ P ops σ { o with guard := none } W S') : StepW Γ P ops σ o W S' := fun a w F hs K Q hK => by
  rw [if_pos ((hg a w F hs).trans hx)]
  have := h a w F hs K Q hK
  rw [if_pos (z1 rfl a)] at this
  exact this
end Go.Proofs.YtaokpncjemkhcaaGreat
namespace Go.Proofs.YtaokpncjemkhcaaGreat
set_option linter.all false
theorem zDN {α : Type} {f : Nat → Option α} {M n : Nat} {d : α} (h : n < M) (hn : ∀ k, k < n → f k = none) (hd : f n = some d) : (List.range M).findSome? f = some d := by
  obtain ⟨m, rfl⟩ := Nat.exists_eq_add_of_le (show n + 1 ≤ M by omega)
  rw [List.range_add, List.findSome?_append, List.range_succ, List.findSome?_append]
  have : (List.range n).findSome? f = none := by
    rw [List.findSome?_eq_none_iff]; intro x hx; exact hn x (List.mem_range.1 hx)
  rw [this]; simp [hd]
theorem zBu {α : Type} {f : Nat → Option α} {M : Nat} (hn : ∀ k, k < M → f k = none) : (List.range M).findSome? f = none := by
  rw [List.findSome?_eq_none_iff]; intro x hx; exact hn x (List.mem_range.1 hx)
theorem zDY {qs : List Due8} : (fullD qs).length = qs.length := by simp [fullD]
theorem fullD_bd {qs : List Due8} (h : ∀ q ∈ qs, 0 ≤ q.num ∧ q.num ≤ 4) : ∀ x ∈ fullD qs, 0 ≤ x ∧ x ≤ 4 := fun x hx => by
  unfold fullD at hx
  obtain ⟨q, hq, rfl⟩ := List.mem_map.1 hx
  exact h q hq
end Go.Proofs.YtaokpncjemkhcaaGreat
namespace Go.Proofs.YtaokpncjemkhcaaGreat
open Go.RowKit
set_option maxRecDepth 20000
set_option linter.all false
@[reducible] def intsT (l : List Int) : List TV := l.map fun n => TV.d (.int .i64 n)
theorem zB6 (l : List Int) : intsT l = (l.map intE).flatten.map .d ++ [] := by
  rw [List.append_nil]
  induction l with
  | nil => rfl
  | cons x l ih => simp only [intsT, List.map_cons, List.flatten_cons, List.map_append] at ih ⊢; rw [ih]; rfl
theorem zBY {l : List Int} : ∀ c ∈ l.map intE, c.length = 1 := fun c hc => by obtain ⟨x, _, rfl⟩ := List.mem_map.1 hc; rfl
theorem zCi {l : List Int} {i : Nat} {x : Int} : (intsT l).set (0 + i * 1) (.d (.int .i64 x)) = intsT (l.set i x) := by
  unfold intsT; rw [List.map_set, Nat.zero_add, Nat.mul_one]
theorem zCo {l : List Int} : (intsT l).length = l.length := by simp
/-- A ledger at work. -/
@[reducible] def workC8 (l : Ldg) (b : Nat) : List D := ldgC l ++ [.raw (.map (some b))]
def canL (l : Ldg) (N : Nat) (h d : List Int) : Bool := canP N (fun i => l.lends.getD i false) h l.dues d
def srchL (l : Ldg) (N : Nat) (h : List Int) (w : Int) (i : Nat) (pre : List Int) (b : Int) : Option (List Int) := searchD (canL l N h) w i (l.dues.drop i) pre b
def mostI (q : Due8) (w b : Int) (i : Nat) : Int := if (i : Int) = w then 0 else min b q.num
theorem srch_step {l : Ldg} {N : Nat} {h : List Int} {w : Int} {i : Nat} {pre : List Int} {b : Int} {q : Due8} (hq : l.dues[i]? = some q) :
    srchL l N h w i pre b = (List.range ((mostI q w b i).toNat + 1)).findSome? fun (n : Nat) => srchL l N h w (i + 1) (pre ++ [q.num - (n : Int)]) (b - (n : Int)) := by
  have h1 := (List.getElem?_eq_some_iff.1 hq)
  obtain ⟨h1, rfl⟩ := h1
  unfold srchL
  rw [List.drop_eq_getElem_cons h1]
  rfl
theorem srch_end {l : Ldg} {N : Nat} {h : List Int} {w : Int} {pre : List Int} {b : Int} : srchL l N h w l.dues.length pre b = if (b == 0 && canL l N h pre) = true then some pre else none := by
  unfold srchL; rw [List.drop_length]; rfl
/-- What is so of a hand and a ledger. -/
structure Hok (l : Ldg) (N : Nat) (h : List Int) : Prop where
  hN5 : l.reg.houses = (N : Int)
  hN6 : N ≤ 4
  hh5 : ∀ i, 0 ≤ h.getD i 0 ∧ h.getD i 0 ≤ 4
  hl6 : l.dues.length ≤ 6
  hq5 : ∀ q ∈ l.dues, 0 ≤ q.frm ∧ q.frm < N ∧ 0 ≤ q.to ∧ q.to < N ∧ q.frm ≠ q.to
  hq6 : ∀ q ∈ l.dues, 1 ≤ q.num ∧ q.num ≤ 4
  hl7 : l.lends.length = N
theorem zD3 {l : Ldg} {N : Nat} {h : List Int} (H : Hok l N h) (d : List Int) (hd : ∀ x ∈ d, 0 ≤ x ∧ x ≤ 4) (hl : d.length = l.dues.length) : PureAt Tryz.prog 81 [ldgD l, handD h, ints d] (.bool (canL l N h d)) :=
  can8_ok l h d N H.hN5 H.hN6 H.hh5 hd hl H.hl6 H.hq5 H.hl7
/-- What a search leaves. -/
def DPost (l : Ldg) (N : Nat) (h : List Int) (w : Int) (i : Nat) (b : Int) (out : List Int) (x : Bool × List Int) : Prop :=
  x.2.length = l.dues.length ∧ x.2.take i = out.take i ∧ (∀ y ∈ x.2, 0 ≤ y ∧ y ≤ 4) ∧ ((x.1 = true ∧ srchL l N h w i (out.take i) b = some x.2) ∨ (x.1 = false ∧ srchL l N h w i (out.take i) b = none))
def DX (l : Ldg) (N : Nat) (h : List Int) (w : Int) (i : Nat) (b : Int) (out : List Int) : Type := {x : Bool × List Int // DPost l N h w i b out x}
@[reducible] def delCa (l : Ldg) (h : List Int) (w : Int) (b bo b11 : Nat) : List TV := [.d (.ptr [.ptr (workC8 l b)]), .d (.ptr (handE h)), .val (.pointer (some ⟨bo, 0, none⟩)), .d (.ptr [.int .i64 w]), .val (.pointer (some ⟨b11, 0, none⟩))]
@[reducible] def delRs (l : Ldg) (h : List Int) (w : Int) (b b10 bo b11 : Nat) (out : List Int) : List (Nat × Res) :=
  [(1011, .box b10 22 [.val (.slice (some ⟨bo, 0, none⟩) l.dues.length l.dues.length)]), (1012, .box bo 3 (intsT out)), (1013, .box b11 196 [.fn (.func 133) [] (delCa l h w b b10 b11)])]
def DelsOK (l : Ldg) (N : Nat) (h : List Int) (w : Int) (b b10 bo b11 k : Nat) : Prop := ∀ (i : Nat) (bt : Int) (out : List Int), i ≤ l.dues.length → l.dues.length - i < k → 0 ≤ bt → bt ≤ 100000 → out.length = l.dues.length → (∀ y ∈ out, 0 ≤ y ∧ y ≤ 4) →
  EffAt Tryz.prog 133 (.d (.int .i64 (i : Nat)) :: .d (.int .i64 bt) :: delCa l h w b b10 b11) (delRs l h w b b10 bo b11 out) (X := DX l N h w i bt out) (fun x => .d (.bool x.1.1)) (fun x => delRs l h w b b10 bo b11 x.1.2)
theorem zAN {l : List Int} {i : Nat} {x : Int} : (l.set i x).take i = l.take i := by
  rw [List.take_set_of_le (Nat.le_refl _)]
theorem take_set_succ {l : List Int} {i : Nat} {x : Int} (h : i < l.length) : (l.set i x).take (i + 1) = l.take i ++ [x] := by
  rw [List.take_add_one, zAN, List.getElem?_set, if_pos rfl, if_pos h]; rfl
theorem zBJ {a b : List Int} {i : Nat} (h : a.take (i + 1) = b.take (i + 1)) : a.take i = b.take i := by
  have := congrArg (List.take i) h
  rwa [List.take_take, List.take_take, Nat.min_eq_left (by omega)] at this
theorem mem_set_bd {l : List Int} {i : Nat} {x : Int} (h : ∀ y ∈ l, 0 ≤ y ∧ y ≤ 4) (hx : 0 ≤ x ∧ x ≤ 4) : ∀ y ∈ l.set i x, 0 ≤ y ∧ y ≤ 4 := fun y hy => by
  rcases List.mem_or_eq_of_mem_set hy with hy | rfl
  · exact h y hy
  · exact hx
theorem sz121 : Sz Tryz.prog 121 4 := (by kernel_rfl : (Tryz.prog.info? 121).map (·.size) = some 4)
theorem sz196 : Sz Tryz.prog 196 1 := (by kernel_rfl : (Tryz.prog.info? 196).map (·.size) = some 1)
theorem zr196 : (Tryz.prog.info? 196).map (·.zero) = some (some .nilFunc) := by kernel_rfl
theorem deliver_step (l : Ldg) (N : Nat) (h : List Int) (H : Hok l N h) (w : Int) (b b10 bo b11 k : Nat) (ih : DelsOK l N h w b b10 bo b11 k) (i : Nat) (bt : Int) (out : List Int) (hi5 : i ≤ l.dues.length) (hk5 : l.dues.length - i < k + 1) (hb50 : 0 ≤ bt) (hb51 : bt ≤ 100000) (ho5 : out.length = l.dues.length) (ho6 : ∀ y ∈ out, 0 ≤ y ∧ y ≤ 4) : EffAt Tryz.prog 133 (.d (.int .i64 (i : Nat)) :: .d (.int .i64 bt) :: delCa l h w b b10 b11) (delRs l h w b b10 bo b11 out) (X := DX l N h w i bt out) (fun x => .d (.bool x.1.1)) (fun x => delRs l h w b b10 bo b11 x.1.2) := by
 have hl6 := H.hl6
 refine EffAt.of_awp Tryz.func133 rfl (by kernel_rfl) rfl fun Γ hn => ?_
 refine zC (zB ?_)
 refine sq rfl rfl hn rfl (zF rfl rfl) ?_
 refine zE (zA (zC (zC (zB ?_))))
 refine sq rfl rfl hn rfl (zG rfl rfl) ?_
 refine sq rfl rfl hn rfl (zR rfl rfl Tryz.underlying119 rfl seesF0) ?_
 refine sq rfl rfl hn rfl (z8 rfl rfl) ?_
 refine sq rfl rfl hn rfl (zN rfl rfl Tryz.underlying156 rfl sz50 rfl) ?_
 refine sq rfl rfl hn rfl (zN rfl rfl Tryz.underlying50 rfl sz48 rfl) ?_
 refine sq rfl rfl hn rfl (zR rfl rfl Tryz.underlying48 rfl seesF0) ?_
 refine sq rfl rfl hn rfl (z7 rfl rfl Tryz.underlying48) ?_
 refine sq rfl rfl hn rfl (yG rfl rfl rfl) ?_
 refine zE (zA ?_)
 refine zS rfl (fun hb0 => ?_) (fun hb0 => ?_)
 ·
  obtain rfl : i = l.dues.length := by simp only [List.length_map, beq_iff_eq] at hb0; omega
  have htk : out.take l.dues.length = out := by rw [← ho5, List.take_length]
  refine zC ?_
  refine yC (W := fun b => b ≠ b10) fmo ?_
  refine d1q (i := 0) rfl (by kernel_rfl) (fun _ _ _ _ h => h) rfl rfl hn rfl (zG rfl rfl) ?_
  refine d1q (i := 1) rfl (by kernel_rfl) (fun _ _ _ _ h => h) rfl rfl hn rfl (yG rfl rfl rfl) ?_
  refine d1q (i := 2) rfl (by kernel_rfl) (fun _ _ _ _ h => h) rfl rfl hn rfl (zG rfl rfl) ?_
  refine d1g (i := 3) [] rfl (by kernel_rfl) (fun _ _ _ _ h => h) (zD rfl rfl rfl) rfl hn rfl (fun hc => trivial) (fun hc => zR rfl rfl Tryz.underlying119 rfl seesFA) ?_
  refine d1g (i := 4) [(23, _)] rfl (by kernel_rfl) (fun _ _ _ _ h => h) (zD rfl rfl rfl) rfl hn rfl (fun hc => ⟨⟨_, rfl, hc⟩, trivial⟩) (fun hc => z8 rfl rfl) ?_
  refine d1g (i := 5) [(24, _)] rfl (by kernel_rfl) (fun _ _ _ _ h => h) (zD rfl rfl rfl) rfl hn rfl (fun hc => ⟨⟨_, rfl, hc⟩, trivial⟩) (fun hc => zN rfl rfl Tryz.underlying156 rfl sz50 rfl) ?_
  refine d1g (i := 6) [(25, _)] rfl (by kernel_rfl) (fun _ _ _ _ h => h) (zD rfl rfl rfl) rfl hn rfl (fun hc => ⟨⟨_, rfl, hc⟩, trivial⟩) (fun hc => ze rfl rfl Tryz.underlying50 rfl sz50 rfl rfl seesFA) ?_
  refine d1g (i := 7) [] rfl (by kernel_rfl) (fun _ _ _ _ h => h) (zD rfl rfl rfl) rfl hn rfl (fun hc => trivial) (fun hc => ze rfl rfl Tryz.underlying121 rfl sz121 rfl rfl seesFA) ?_
  refine d1g (i := 8) [] rfl (by kernel_rfl) (fun _ _ _ _ h => h) (zD rfl rfl rfl) rfl hn rfl (fun hc => trivial) (fun hc => zQ rfl rfl (id := 1011) rfl Tryz.underlying22 rfl rfl (seesA (by simp))) ?_
  refine zM ?_
  refine kH (i := 1012) (j := 1011) rfl rfl rfl (fun hne => ?_)
  refine zk (i := 9) (by kernel_rfl) rfl (s_callEg [(26, _), (27, _), (28, _)] () (fun hc => PureAt.vec (id := 1012) (ty := 3) (ds1 := [ldgD l, handD h]) (ds2 := []) (rest := []) (zD3 H out ho6 ho5) rfl (by rw [List.length_map]; exact ho5.symm) (zB6 out) zBY (Nat.le_refl _) (by simp only [maxLen]; omega)) rfl (zD rfl rfl rfl) rfl (nb hn rfl) (fun hc => ⟨⟨_, rfl, hc⟩, ⟨_, rfl, hc⟩, ⟨_, rfl, hc⟩, trivial⟩) (.d rfl) rfl (.refl _) ⟨rfl, trivial⟩ (fun _ => rfl) (fun b hb e => hne _ rfl (congrArg some ((yK.1 hb).trans e).symm)) ⟨rfl, trivial⟩) fun ⟨_, _⟩ => ?_
  refine d2_of_d1 ?_
  refine d1q (i := 10) rfl (by kernel_rfl) (fun _ _ _ _ h => h) rfl rfl hn rfl (zy rfl rfl rfl (by intro hB; first | (rw [hB]; rfl) | (rw [hB, hc]; rfl) | simp_all)) ?_
  refine d1q (i := 11) rfl (by kernel_rfl) (fun _ _ _ _ h => h) rfl rfl hn rfl (zF rfl rfl) ?_
  refine zM ?_
  refine zv (by kernel_rfl) ?_
  refine zA (zO (zL ?_))
  exact ret_E (.inl rfl) ⟨((bt == 0) && canL l N h out, out), ho5, rfl, ho6, by rw [srch_end, htk]; cases hcc : ((bt == 0) && canL l N h out) with | true => exact .inl ⟨rfl, rfl⟩ | false => exact .inr ⟨rfl, rfl⟩⟩ (yB rfl (.tmp rfl)) ⟨rfl, rfl, rfl, trivial⟩
 ·
  have hil : i < l.dues.length := by simp only [List.length_map, beq_eq_false_iff_ne, ne_eq] at hb0; omega
  obtain ⟨q, hq⟩ := z2 hil
  have hqn := H.hq6 q (List.mem_of_getElem? hq)
  refine zU (zA (zC (zB ?_)))
  refine sq rfl rfl hn rfl (zG rfl rfl) ?_
  refine sq rfl rfl hn rfl (zR rfl rfl Tryz.underlying119 rfl seesF0) ?_
  refine sq rfl rfl hn rfl (z8 rfl rfl) ?_
  refine sq rfl rfl hn rfl (zN rfl rfl Tryz.underlying156 rfl sz50 rfl) ?_
  refine sq rfl rfl hn rfl (zN rfl rfl Tryz.underlying50 rfl sz48 rfl) ?_
  refine sq rfl rfl hn rfl (zR rfl rfl Tryz.underlying48 rfl seesF0) ?_
  refine sq rfl rfl hn rfl (zG rfl rfl) ?_
  refine sq rfl rfl hn rfl (q_index (i := i) rfl rfl rfl Tryz.underlying48 sz88 rfl (mget hq)) ?_
  refine sq rfl rfl hn rfl (zN rfl rfl Tryz.underlying88 rfl sz3 rfl) ?_
  refine sq rfl rfl hn rfl (zR rfl rfl Tryz.underlying3 rfl seesF0) ?_
  refine stepW (zP rfl rfl rfl (nb hn rfl) Tryz.underlying22 sz3 zr3 rfl rfl rfl (show _ = [.d (.int .i64 0), .d (.int .i64 0)] from by kernel_rfl) (by kernel_rfl) rfl rfl rfl rfl rfl) fun _ => ?_
  refine stepW (s_call [] (fun _ => yp bt [q.num]) rfl (zI rfl) rfl (nb hn rfl) (fun _ => trivial) rfl rfl (.refl _)) fun _ => ?_
  refine sq rfl rfl hn rfl (zF rfl rfl) ?_
  refine zE (zA (zC (zC (zB ?_))))
  refine sq rfl rfl hn rfl (zG rfl rfl) ?_
  refine sq rfl rfl hn rfl (zR rfl rfl Tryz.underlying3 rfl seesF0) ?_
  refine sq rfl rfl hn rfl (yG rfl rfl rfl) ?_
  refine zE (zA ?_)
  refine yR (e := .normal) (ι := Unit) (fun u0 => [(10, true, .d (.int .i64 (mostI q w bt i)))]) (fun u0 => []) (fun hJ1 => ?_) ?_
  ·
   refine zS rfl (fun hb1 => ?_) (fun hb1 => ?_)
   ·
    have hm7 : (0 : Int) = mostI q w bt i := by unfold mostI; rw [if_pos (by simpa using hb1)]
    refine zB ?_
    refine sq rfl rfl hn rfl (zF rfl rfl) ?_
    refine zE ?_
    exact aend_join_on hJ1 () ⟨.inl (congrArg (fun n : Int => some (true, TV.d (.int .i64 n))) hm7), trivial⟩ trivial (by repeat (first | exact kr _ | refine kc rfl ?_)) (by repeat (first | exact kr _ | refine kc rfl ?_))
   ·
    have hm7 : minL bt [q.num] = mostI q w bt i := by unfold mostI; rw [if_neg (by simpa using hb1)]; simp [minL]
    refine zU ?_
    exact aend_join_on hJ1 () ⟨.inl (congrArg (fun n : Int => some (true, TV.d (.int .i64 n))) hm7), trivial⟩ trivial (by repeat (first | exact kr _ | refine kc rfl ?_)) (by repeat (first | exact kr _ | refine kc rfl ?_))
  ·
   rintro _
   refine zA (zC (zC ?_))
   have hmost : 0 ≤ mostI q w bt i ∧ mostI q w bt i ≤ bt ∧ mostI q w bt i ≤ q.num := by unfold mostI; split <;> omega
   obtain ⟨M, hM⟩ : ∃ M : Nat, mostI q w bt i = (M : Int) := ⟨(mostI q w bt i).toNat, by omega⟩
   have hst := srch_step (N := N) (h := h) (w := w) (pre := out.take i) (b := bt) hq
   rw [hM, Int.toNat_natCast] at hst
   refine zB ?_
   refine sq rfl rfl hn rfl (zG rfl rfl) ?_
   refine sq rfl rfl hn rfl (z6 rfl rfl rfl (r := ((M + 1 : Nat) : Int)) (by rw [hM]; exact i64w (by omega) (by omega))) ?_
   refine sq rfl rfl hn rfl (zG rfl rfl) ?_
   refine zE (zA (zV ?_))
   refine awp_loop_on (ι := {x : Nat × List Int // x.1 ≤ M + 1 ∧ x.2.length = l.dues.length ∧ x.2.take i = out.take i ∧ (∀ y ∈ x.2, 0 ≤ y ∧ y ≤ 4) ∧ ∀ n, n < x.1 → srchL l N h w (i + 1) (out.take i ++ [q.num - ((n : Nat) : Int)]) (bt - ((n : Nat) : Int)) = none}) (fun x => (48, true, .d (.int .i64 (x.1.1 : Nat))) :: anys [49, 50, 11, 51, 52, 53, 54, 55, 56, 57, 58, 59, 60, 61, 62, 63, 64, 65, 66, 67, 68, 69, 70, 71, 72]) (fun x => [(1011, .box b10 22 [.val (.slice (some ⟨bo, 0, none⟩) l.dues.length l.dues.length)]), (1012, .box bo 3 (intsT x.1.2)), (1013, .box b11 196 [.fn (.func 133) [] (delCa l h w b b10 b11)])]) (fun x => M + 1 - x.1.1) ⟨(0, out), by omega, ho5, rfl, ho6, fun n hn => by omega⟩ ⟨.inl rfl, zJ _⟩ ⟨.inl rfl, .inl rfl, .inl rfl, trivial⟩ ?_
   rintro ⟨⟨n, o1⟩, hnM0, h1, h2, h3, h4⟩
   dsimp only
   dsimp only at hnM0 h1 h2 h3 h4
   refine zC (zB ?_)
   refine sq rfl rfl hn rfl (yJ rfl rfl rfl) ?_
   refine zE (zA (zC ?_))
   refine zS rfl (fun hb2 => ?_) (fun hb2 => ?_)
   ·
    have hnM : n ≤ M := by simp only [decide_eq_true_eq] at hb2; omega
    refine zU (zA (zC (zV (zC (zB ?_)))))
    refine sq rfl rfl hn rfl (zG rfl rfl) ?_
    refine sq rfl rfl hn rfl (zF rfl rfl) ?_
    refine zE (zA (zC ?_))
    refine yC (W := fun b => b ≠ b10) fmo ?_
    refine d1q (i := 0) rfl (by kernel_rfl) (fun _ _ _ _ h => h) rfl rfl hn rfl (zQ rfl rfl (id := 1011) rfl Tryz.underlying22 rfl rfl (seesA (by simp))) ?_
    refine d1q (i := 1) rfl (by kernel_rfl) (fun _ _ _ _ h => h) rfl rfl hn rfl (zG rfl rfl) ?_
    refine d1q (i := 2) rfl (by kernel_rfl) (fun _ _ _ _ h => h) rfl rfl hn rfl (zR rfl rfl Tryz.underlying119 rfl seesFA) ?_
    refine d1q (i := 3) rfl (by kernel_rfl) (fun _ _ _ _ h => h) rfl rfl hn rfl (z8 rfl rfl) ?_
    refine d1q (i := 4) rfl (by kernel_rfl) (fun _ _ _ _ h => h) rfl rfl hn rfl (zN rfl rfl Tryz.underlying156 rfl sz50 rfl) ?_
    refine d1q (i := 5) rfl (by kernel_rfl) (fun _ _ _ _ h => h) rfl rfl hn rfl (zN rfl rfl Tryz.underlying50 rfl sz48 rfl) ?_
    refine d1q (i := 6) rfl (by kernel_rfl) (fun _ _ _ _ h => h) rfl rfl hn rfl (zR rfl rfl Tryz.underlying48 rfl seesFA) ?_
    refine d1q (i := 7) rfl (by kernel_rfl) (fun _ _ _ _ h => h) rfl rfl hn rfl (zG rfl rfl) ?_
    refine d1q (i := 8) rfl (by kernel_rfl) (fun _ _ _ _ h => h) rfl rfl hn rfl (q_index (i := i) rfl rfl rfl Tryz.underlying48 sz88 rfl (mget hq)) ?_
    refine d1q (i := 9) rfl (by kernel_rfl) (fun _ _ _ _ h => h) rfl rfl hn rfl (zN rfl rfl Tryz.underlying88 rfl sz3 rfl) ?_
    refine d1q (i := 10) rfl (by kernel_rfl) (fun _ _ _ _ h => h) rfl rfl hn rfl (zR rfl rfl Tryz.underlying3 rfl seesFA) ?_
    refine d1q (i := 11) rfl (by kernel_rfl) (fun _ _ _ _ h => h) rfl rfl hn rfl (zG rfl rfl) ?_
    refine d1q (i := 12) rfl (by kernel_rfl) (fun _ _ _ _ h => h) rfl rfl hn rfl (zAl rfl rfl rfl (i64w (by omega) rfl)) ?_
    refine d1q (i := 13) rfl (by kernel_rfl) (fun _ _ _ _ h => h) rfl rfl hn rfl (q_indexV (i := i) rfl rfl rfl Tryz.underlying22 sz3 rfl (by omega)) ?_
    refine zM ?_
    refine kH (i := 1012) (j := 1011) rfl rfl rfl (fun hne1012_1011 => ?_)
    refine zk (i := 14) (by kernel_rfl) rfl (s_store1 rfl rfl rfl rfl rfl rfl (id := 1012) rfl sz3 (by show 0 + i * 1 < _; rw [zCo]; omega) zCi (fun e => hne1012_1011 _ rfl (congrArg some e.symm))) fun _ => ?_
    refine d2_of_d1 (zM ?_)
    refine zv (by kernel_rfl) ?_
    refine zA (zC (zB ?_))
    refine sq rfl rfl hn rfl (zQ rfl rfl (id := 1013) rfl Tryz.underlying196 rfl rfl sees0) ?_
    refine sq rfl rfl hn rfl (zG rfl rfl) ?_
    refine sq rfl rfl hn rfl (z6 rfl rfl rfl (r := ((i + 1 : Nat) : Int)) (i64w (by omega) (by omega))) ?_
    refine sq rfl rfl hn rfl (zG rfl rfl) ?_
    refine sq rfl rfl hn rfl (zG rfl rfl) ?_
    refine sq rfl rfl hn rfl (zAl rfl rfl rfl (i64w (by omega) rfl)) ?_
    refine stepW (s_callE (ih (i + 1) (bt - ((n : Nat) : Int)) (o1.set i (q.num - ((n : Nat) : Int))) (by omega) (by omega) (by omega) (by omega) (by rw [List.length_set]; exact h1) (mem_set_bd h3 (by omega))) rfl rfl rfl (nb hn rfl) (.t rfl) rfl (.refl _) ⟨rfl, rfl, rfl, trivial⟩ (fun _ => rfl) (fun _ _ => trivial)) fun ⟨⟨is2, o2⟩, g1, g2, g3, g4⟩ => ?_
    dsimp only at g1 g2 g3 g4
    rw [take_set_succ (by omega), h2] at g4
    refine zE (zA ?_)
    refine zS rfl (fun hb3 => ?_) (fun hb3 => ?_)
    ·
     have htt : is2 = true := hb3
     obtain ⟨_, hsome⟩ : is2 = true ∧ srchL l N h w (i + 1) (out.take i ++ [q.num - ((n : Nat) : Int)]) (bt - ((n : Nat) : Int)) = some o2 := g4.resolve_right fun k => by rw [htt] at k; cases k.1
     refine zC (zB ?_)
     refine sq rfl rfl hn rfl (zF rfl rfl) ?_
     refine zE (zA (zO (zf (zL (zL (zf (zL ?_)))))))
     exact ret_E (.inl rfl) ⟨(true, o2), g1, by dsimp only; rw [zBJ g2, zAN]; exact h2, g3, .inl ⟨rfl, by rw [hst]; exact zDN (by omega) h4 hsome⟩⟩ (yB rfl (.tmp rfl)) ⟨rfl, rfl, rfl, trivial⟩
    ·
     have htt : is2 = false := hb3
     obtain ⟨_, hno⟩ : is2 = false ∧ srchL l N h w (i + 1) (out.take i ++ [q.num - ((n : Nat) : Int)]) (bt - ((n : Nat) : Int)) = none := g4.resolve_left fun k => by rw [htt] at k; cases k.1
     refine zU (za (zA (zB ?_)))
     refine sq rfl rfl hn rfl (z6 rfl rfl rfl (r := ((n + 1 : Nat) : Int)) (i64w (by omega) (by omega))) ?_
     refine sq rfl rfl hn rfl (zG rfl rfl) ?_
     refine zE ?_
     exact zZ ⟨(n + 1, o2), by omega, g1, by dsimp only; rw [zBJ g2, zAN]; exact h2, g3, fun n2 hn2 => by (by_cases e : n2 = n; (subst e; exact hno); exact h4 n2 (by dsimp only at hn2; omega))⟩ ⟨.inl rfl, zJ _⟩ ⟨.inl rfl, .inl rfl, .inl rfl, trivial⟩ (by simp only; omega) (by repeat (first | exact kr _ | refine kc rfl ?_)) (by repeat (first | exact kr _ | refine kc rfl ?_))
   ·
    have hnM : n = M + 1 := by simp only [decide_eq_false_iff_not] at hb2; omega
    refine zw (zK (zK (zW (zA (zC (zB ?_))))))
    refine sq rfl rfl hn rfl (zF rfl rfl) ?_
    refine zE (zA (zO ?_))
    exact ret_E (.inl rfl) ⟨(false, o1), h1, h2, h3, .inr ⟨rfl, by rw [hst]; exact zBu fun n2 hn2 => h4 n2 (by omega)⟩⟩ (yB rfl (.tmp rfl)) ⟨rfl, rfl, rfl, trivial⟩
theorem deliver_all (l : Ldg) (N : Nat) (h : List Int) (H : Hok l N h) (w : Int) (b b10 bo b11 : Nat) : ∀ k, DelsOK l N h w b b10 bo b11 k := by
  intro k
  induction k with
  | zero => intro i bt out _ h; omega
  | succ k ih => intro i bt out h1 h2 h3 h4 h5 h6; exact deliver_step l N h H w b b10 bo b11 k ih i bt out h1 h2 h3 h4 h5 h6
def TryX (l : Ldg) (N : Nat) (h : List Int) (w bt : Int) : Type := {x : Bool × List Int // (x.1 = true ∧ srchL l N h w 0 [] bt = some x.2) ∨ (x.1 = false ∧ srchL l N h w 0 [] bt = none)}
theorem try_ok (l : Ldg) (N : Nat) (h : List Int) (H : Hok l N h) (w : Int) (b : Nat) (bt : Int) (hb50 : 0 ≤ bt) (hb51 : bt ≤ 100000) : EffAt Tryz.prog 103 [.d (.ptr (workC8 l b)), .d (handD h), .d (.int .i64 bt), .d (.int .i64 w)] [] (X := TryX l N h w bt) (fun x => .d (.tup [ints x.1.2, .bool x.1.1])) (fun _ => []) := by
 have hl6 := H.hl6
 refine EffAt.of_awp Tryz.func103 rfl (by kernel_rfl) rfl fun Γ hn => ?_
 refine zC (zB ?_)
 refine stepW (zr 4 rfl rfl rfl (nb hn rfl) rfl rfl) fun b4 => ?_
 refine stepW (zr 5 rfl rfl rfl (nb hn rfl) rfl rfl) fun b5 => ?_
 refine stepW (zr 7 rfl rfl rfl (nb hn rfl) rfl rfl) fun b7 => ?_
 refine sq rfl rfl hn rfl (zF rfl rfl) ?_
 refine sq rfl rfl hn rfl (zF rfl rfl) ?_
 refine zE (zA (zC ?_))
 refine zx (zn (t := 4) 4 rfl (nb hn rfl) rfl rfl trivial) ?_
 refine zx (zn (t := 5) 5 rfl (nb hn rfl) rfl rfl trivial) ?_
 refine zx (zn (t := 7) 7 rfl (nb hn rfl) rfl rfl trivial) ?_
 refine zB ?_
 refine sq rfl rfl hn rfl (zR rfl rfl Tryz.underlying119 rfl seesF0) ?_
 refine sq rfl rfl hn rfl (z8 rfl rfl) ?_
 refine sq rfl rfl hn rfl (zN rfl rfl Tryz.underlying156 rfl sz50 rfl) ?_
 refine sq rfl rfl hn rfl (zN rfl rfl Tryz.underlying50 rfl sz48 rfl) ?_
 refine sq rfl rfl hn rfl (zR rfl rfl Tryz.underlying48 rfl seesF0) ?_
 refine sq rfl rfl hn rfl (z7 rfl rfl Tryz.underlying48) ?_
 refine stepW (kW (n := l.dues.length) 1012 rfl rfl rfl (nb hn rfl) Tryz.underlying22 (show _ = some (some (.int .i64 0), 1, 8) from by kernel_rfl) rfl rfl rfl (by decide) rfl rfl (by rw [List.length_map]) (by rw [List.length_map]) (by omega) (by omega) (by omega)) fun b19 => ?_
 refine stepW (zh 1011 rfl rfl rfl (nb hn rfl) zr22 rfl rfl) fun b10 => ?_
 refine stepW (s_store1 rfl rfl rfl rfl rfl rfl (id := 1011) rfl sz22 (Nat.le_of_ble_eq_true rfl) rfl trivial) fun _ => ?_
 refine zE (zA (zC (zB ?_)))
 refine stepW (zh 1013 rfl rfl rfl (nb hn rfl) zr196 rfl rfl) fun b11 => ?_
 refine zE (zA (zC (zB ?_)))
 refine sq rfl rfl hn rfl (kQ rfl rfl rfl) ?_
 refine stepW (s_store1 rfl rfl rfl rfl rfl rfl (id := 1013) rfl sz196 (Nat.le_of_ble_eq_true rfl) rfl trivial) fun _ => ?_
 refine zE (zA (zC ?_))
 refine zx (gh_req (id := 1012) rfl (congrArg (fun z => Res.box b19 3 z) (zD5 _))) ?_
 refine zB ?_
 refine sq rfl rfl hn rfl (zQ rfl rfl (id := 1013) rfl Tryz.underlying196 rfl rfl sees0) ?_
 refine sq rfl rfl hn rfl (zG rfl rfl) ?_
 refine stepW (s_callE (deliver_all l N h H w b b10 b19 b11 _ 0 bt (List.replicate l.dues.length 0) (Nat.zero_le _) (Nat.lt_succ_self _) hb50 hb51 (List.length_replicate ..) (fun y hy => by rw [List.eq_of_mem_replicate hy]; omega)) rfl rfl rfl (nb hn rfl) (.t rfl) rfl (.refl _) ⟨rfl, rfl, rfl, trivial⟩ (fun _ => rfl) (fun _ _ => trivial)) fun ⟨⟨is2, o2⟩, g1, g2, g3, g4⟩ => ?_
 refine sq rfl rfl hn rfl (zF rfl rfl) ?_
 refine zE (zA (zC (zB ?_)))
 refine sq rfl rfl hn rfl (zQ rfl rfl (id := 1011) rfl Tryz.underlying22 rfl rfl sees0) ?_
 refine sq rfl rfl hn rfl (zG rfl rfl) ?_
 refine sq rfl rfl hn rfl (zF rfl rfl) ?_
 refine sq rfl rfl hn rfl (zF rfl rfl) ?_
 refine zE (zA (zO ?_))
 refine kF (g_freezeV (t := 8) (sz := 1) (n := l.dues.length) (ds := (o2.map intE).flatten) (es := o2.map intE) 1012 rfl rfl (by rw [zB6, List.append_nil]; exact zAn _) (by rw [zBS zBY, List.length_map, g1]) (by have := zAG (k := 1) (rows := o2.map intE) zBY; rw [List.length_map, g1] at this; exact this) (Nat.le_refl _) (by simp only [maxLen]; omega)) ?_
 exact ret_E (.inl rfl) ⟨(is2, o2), g4⟩ (yj rfl (.tmp rfl) (.tmp rfl)) trivial
def bestR (l : Ldg) (N : Nat) (h : List Int) (w : Int) : List Int × Int × Bool := match bestD (canL l N h) w l.dues with
  | some (d, n) => (d, n, true)
  | none => ([], 0, false)
theorem bestR_hit {l : Ldg} {N : Nat} {h : List Int} {w : Int} {O n : Nat} {o : List Int} (hO : owedI l.dues = (O : Int)) (hn : n ≤ O) (h1 : ∀ k : Nat, k < n → srchL l N h w 0 [] (k : Int) = none) (h2 : srchL l N h w 0 [] (n : Int) = some o) : bestR l N h w = (o, (n : Int), true) := by
  have : bestD (canL l N h) w l.dues = some (o, (n : Int)) := by
    unfold bestD
    rw [hO, Int.toNat_natCast]
    refine zDN (n := n) (by omega) (fun k hk => ?_) ?_
    · have := h1 k hk; unfold srchL at this; rw [List.drop_zero] at this; rw [this]; rfl
    · unfold srchL at h2; rw [List.drop_zero] at h2; rw [h2]; rfl
  unfold bestR; rw [this]
theorem bestR_miss {l : Ldg} {N : Nat} {h : List Int} {w : Int} {O : Nat} (hO : owedI l.dues = (O : Int)) (h1 : ∀ k : Nat, k < O + 1 → srchL l N h w 0 [] (k : Int) = none) : bestR l N h w = ([], 0, false) := by
  have : bestD (canL l N h) w l.dues = none := by
    unfold bestD
    rw [hO, Int.toNat_natCast]
    refine zBu fun k hk => ?_
    have := h1 k hk; unfold srchL at this; rw [List.drop_zero] at this; rw [this]; rfl
  unfold bestR; rw [this]
theorem zCW (l : Ldg) (N : Nat) (h : List Int) (H : Hok l N h) (w : Int) (b : Nat) : PureAt Tryz.prog 73 [.ptr (workC8 l b), handD h, .int .i64 w] (.tup [ints (bestR l N h w).1, .int .i64 (bestR l N h w).2.1, .bool (bestR l N h w).2.2]) := by
 have hl6 := H.hl6
 have how := zBx (qs := l.dues) fun q hq => by have := H.hq6 q hq; omega
 obtain ⟨O, hO⟩ : ∃ O : Nat, owedI l.dues = (O : Int) := ⟨(owedI l.dues).toNat, by omega⟩
 refine PureAt.of_awp Tryz.func73 rfl (by kernel_rfl) (Nat.le_of_ble_eq_true rfl) fun Γ hn hl => ?_
 refine zC (zB ?_)
 refine stepW (zr 4 rfl rfl rfl (nb hn rfl) rfl rfl) fun b4 => ?_
 refine sq rfl rfl hn rfl (zF rfl rfl) ?_
 refine sq rfl rfl hn rfl (zF rfl rfl) ?_
 refine sq rfl rfl hn rfl (zF rfl rfl) ?_
 refine zE (zA (zC (zC (zB ?_))))
 refine sq rfl rfl hn rfl (zG rfl rfl) ?_
 refine sq rfl rfl hn rfl (z8 rfl rfl) ?_
 refine sq rfl rfl hn rfl (zN rfl rfl Tryz.underlying156 rfl sz50 rfl) ?_
 refine sq rfl rfl hn rfl (ze rfl rfl Tryz.underlying50 rfl sz50 rfl rfl seesF0) ?_
 refine stepW (s_call [] (fun _ => zCQ l (fun q hq => by have := H.hq6 q hq; omega) (by omega)) rfl (zI rfl) rfl (nb hn rfl) (fun _ => trivial) rfl rfl (.refl _)) fun _ => ?_
 refine sq rfl rfl hn rfl (z6 rfl rfl rfl (r := ((O + 1 : Nat) : Int)) (by rw [hO]; exact i64w (by omega) (by omega))) ?_
 refine sq rfl rfl hn rfl (zG rfl rfl) ?_
 refine zE (zA (zV ?_))
 refine awp_loop_on (ι := {x : Nat // x ≤ O + 1 ∧ ∀ k : Nat, k < x → srchL l N h w 0 [] (k : Int) = none}) (fun x => (18, true, .d (.int .i64 (x.1 : Nat))) :: anys [19, 20, 9, 22, 23, 24, 25, 26, 21, 27, 28, 10, 11, 29, 32]) (fun x => []) (fun x => O + 1 - x.1) ⟨0, by omega, fun k hk => by omega⟩ ⟨.inl rfl, zJ _⟩ trivial ?_
 rintro ⟨n, hnO0, h4⟩
 dsimp only
 refine zC (zB ?_)
 refine sq rfl rfl hn rfl (yJ rfl rfl rfl) ?_
 refine zE (zA (zC ?_))
 refine zS rfl (fun hb0 => ?_) (fun hb0 => ?_)
 ·
  have hnO : n ≤ O := by simp only [decide_eq_true_eq] at hb0; omega
  refine zU (zA (zC (zV (zC (zB ?_)))))
  refine sq rfl rfl hn rfl (zG rfl rfl) ?_
  refine sq rfl rfl hn rfl (zF rfl rfl) ?_
  refine zE (zA (zC (zB ?_)))
  refine sq rfl rfl hn rfl (zG rfl rfl) ?_
  refine sq rfl rfl hn rfl (zY rfl rfl (id := 4) rfl Tryz.underlying121 rfl sz121 rfl rfl sees0) ?_
  refine sq rfl rfl hn rfl (zG rfl rfl) ?_
  refine sq rfl rfl hn rfl (zG rfl rfl) ?_
  refine stepW (s_callE (try_ok l N h H w b (n : Int) (by omega) (by omega)) rfl rfl rfl (nb hn rfl) (.d rfl) rfl (.refl _) trivial (fun _ => rfl) (fun _ _ => trivial)) fun ⟨⟨is2, o2⟩, g4⟩ => ?_
  refine sq rfl rfl hn rfl (zG rfl rfl) ?_
  refine sq rfl rfl hn rfl (zT rfl rfl rfl) ?_
  refine sq rfl rfl hn rfl (zT rfl rfl rfl) ?_
  refine sq rfl rfl hn rfl (zF rfl rfl) ?_
  refine sq rfl rfl hn rfl (zF rfl rfl) ?_
  refine zE (zA (zC (zB ?_)))
  refine sq rfl rfl hn rfl (zG rfl rfl) ?_
  refine zE (zA ?_)
  refine zS rfl (fun hb1 => ?_) (fun hb1 => ?_)
  ·
   have htt : is2 = true := hb1
   obtain ⟨_, hsome⟩ : is2 = true ∧ srchL l N h w 0 [] (n : Int) = some o2 := g4.resolve_right fun k => by rw [htt] at k; cases k.1
   refine zC (zB ?_)
   refine sq rfl rfl hn rfl (zG rfl rfl) ?_
   refine sq rfl rfl hn rfl (zG rfl rfl) ?_
   refine sq rfl rfl hn rfl (zF rfl rfl) ?_
   refine sq rfl rfl hn rfl (zF rfl rfl) ?_
   refine sq rfl rfl hn rfl (zF rfl rfl) ?_
   refine zE (zA (zO (zf (zL (zL (zf (zL ?_)))))))
   refine zp (zDb (.inl rfl) hl rfl (.tmp rfl) (.tmp rfl) (.tmp rfl)) ?_
   rw [bestR_hit hO hnO h4 hsome]
  ·
   have htt : is2 = false := hb1
   obtain ⟨_, hno⟩ : is2 = false ∧ srchL l N h w 0 [] (n : Int) = none := g4.resolve_left fun k => by rw [htt] at k; cases k.1
   refine zU (za (zA (zB ?_)))
   refine sq rfl rfl hn rfl (z6 rfl rfl rfl (r := ((n + 1 : Nat) : Int)) (i64w (by omega) (by omega))) ?_
   refine sq rfl rfl hn rfl (zG rfl rfl) ?_
   refine zE ?_
   exact zZ ⟨n + 1, by omega, fun k hk => by (by_cases e : k = n; (subst e; exact hno); exact h4 k (by omega))⟩ ⟨.inl rfl, zJ _⟩ trivial (by simp only; omega) (by repeat (first | exact kr _ | refine kc rfl ?_)) (by repeat (first | exact kr _ | refine kc rfl ?_))
 ·
  have hnO : n = O + 1 := by simp only [decide_eq_false_iff_not] at hb0; omega
  refine zw (zK (zK (zW (zA (zC (zB ?_))))))
  refine sq rfl rfl hn rfl (zF rfl rfl) ?_
  refine sq rfl rfl hn rfl (zF rfl rfl) ?_
  refine sq rfl rfl hn rfl (zF rfl rfl) ?_
  refine zE (zA (zO ?_))
  refine kb (zDb (.inl rfl) hl rfl (.tmp rfl) (.tmp rfl) (.tmp rfl)) ?_
  rw [bestR_miss hO fun k hk => h4 k (by omega)]; exact .tup (.cons (.nil 1) (.refl _))
end Go.Proofs.YtaokpncjemkhcaaGreat
namespace Go.Proofs.YtaokpncjemkhcaaGreat
open Go.RowKit
set_option maxRecDepth 20000
set_option linter.all false
theorem getD_z {l : List Int} {i : Nat} (h : i < l.length) : l[i]? = some (l.getD i 0) := by
  rw [List.getD_eq_getElem?_getD, List.getElem?_eq_getElem h]; rfl
theorem intsT_get {l : List Int} {i : Nat} (h : i < l.length) : (intsT l)[0 + i * 1]? = some (.d (.int .i64 (l.getD i 0))) := by
  unfold intsT; rw [Nat.zero_add, Nat.mul_one, List.getElem?_map, getD_z h]; rfl
end Go.Proofs.YtaokpncjemkhcaaGreat
namespace Go.Proofs.YtaokpncjemkhcaaGreat
set_option linter.all false
def asSights (N : Nat) : Nat → List Int → List Sight5
  | _, [] => []
  | k, h :: hs => ⟨(k : Int), h, (N : Int)⟩ :: asSights N (k + 1) hs
theorem kg {N : Nat} {h : Int} : ∀ {hs : List Int} {k : Nat}, asSights N k (hs ++ [h]) = asSights N k hs ++ [⟨((k + hs.length : Nat) : Int), h, (N : Int)⟩]
  | [], k => rfl
  | x :: hs, k => by
    simp only [List.cons_append, asSights, kg (hs := hs) (k := k + 1), List.length_cons]
    rw [show k + 1 + hs.length = k + (hs.length + 1) by omega]
theorem ko {N : Nat} : ∀ {hs : List Int} {k : Nat}, (asSights N k hs).length = hs.length
  | [], _ => rfl
  | x :: hs, k => by simp only [asSights, List.length_cons, ko (hs := hs)]
theorem zA9 {N : Nat} : ∀ {hs : List Int} {k : Nat} {s : Sight5}, s ∈ asSights N k hs → (k : Int) ≤ s.sheet ∧ s.sheet < ((k + hs.length : Nat) : Int) ∧ s.house ∈ hs ∧ s.day = (N : Int)
  | [], _, _, h => by cases h
  | x :: hs, k, s, h => by
    simp only [asSights, List.mem_cons] at h
    rcases h with rfl | h
    · exact ⟨Int.le_refl _, by simp only [List.length_cons]; omega, List.mem_cons_self, rfl⟩
    · obtain ⟨h1, h2, h3, h4⟩ := zA9 h
      exact ⟨by omega, by simp only [List.length_cons]; omega, List.mem_cons_of_mem _ h3, h4⟩
/-- The register with sights of the first sheets. -/
def seeReg (r : Reg) (N : Nat) (hs : List Int) : Reg := ⟨r.houses, r.start, r.entries, r.sights ++ asSights N 0 hs⟩
theorem see_nil {r : Reg} {N : Nat} : seeReg r N [] = r := by
  unfold seeReg asSights; rw [List.append_nil]
theorem see_snoc {r : Reg} {N : Nat} {hs : List Int} {h : Int} : seeReg r N (hs ++ [h]) = seeingR (seeReg r N hs) ⟨(hs.length : Int), h, (N : Int)⟩ := by
  unfold seeReg seeingR
  rw [kg, Nat.zero_add, List.append_assoc]
theorem see_valid {r : Reg} {N : Nat} {hs : List Int} (v : Valid r) (h0 : r.sights = []) (hl : hs.length ≤ r.start.length) (hb : ∀ x ∈ hs, 0 ≤ x ∧ x ≤ r.houses - 1) (hN : N ≤ 9) : Valid (seeReg r N hs) := by
  have hs4 := v.s4
  refine ⟨v.h1, v.h4, v.s1, v.s4, v.e6, ?_, v.st, v.en, fun s hs' => ?_⟩
  · show (r.sights ++ asSights N 0 hs).length ≤ 4
    rw [h0, List.nil_append, ko]; omega
  · have hs2 : s ∈ r.sights ++ asSights N 0 hs := hs'
    rw [h0, List.nil_append] at hs2
    obtain ⟨h1, h2, h3, h4⟩ := zA9 hs2
    have := hb _ h3
    exact ⟨by omega, by show s.sheet ≤ (r.start.length : Int) - 1; omega, this.1, this.2, by omega, by omega⟩
theorem snoc_ind {P : List Int → Prop} (h0 : P []) (h1 : ∀ l x, P l → P (l ++ [x])) : ∀ l, P l := fun l => by
  have key : ∀ n, ∀ l : List Int, l.length = n → P l := fun n => by
    induction n with
    | zero => intro l hl; rw [List.eq_nil_of_length_eq_zero hl]; exact h0
    | succ n ih =>
      intro l hl
      have hne : l ≠ [] := by rintro rfl; cases hl
      rw [← List.dropLast_concat_getLast hne]
      exact h1 _ _ (ih _ (by rw [List.length_dropLast]; omega))
  exact key _ l rfl
theorem zAL {l : List Int} {x : Int} {s : Nat} (h : s < l.length) : (l ++ [x]).getD s 0 = l.getD s 0 := by
  rw [List.getD_eq_getElem?_getD, List.getD_eq_getElem?_getD, List.getElem?_append_left h]
theorem zAQ {l : List Int} {x : Int} : (l ++ [x]).getD l.length 0 = x := by
  rw [List.getD_eq_getElem?_getD, List.getElem?_append_right (Nat.le_refl _)]; simp
theorem zA5 {r : Reg} {N : Nat} (t : List Int) (ds : List Nat) : ∀ hs : List Int, Truth (seeReg r N hs) t ds ↔ Truth r t ds ∧ ∀ m, ds[N]? = some m → ∀ s, s < hs.length → (placesA r m).getD s 0 = hs.getD s 0 := by
  refine snoc_ind ?_ fun l x ih => ?_
  · rw [see_nil]; exact ⟨fun h => ⟨h, fun _ _ s hs => by cases hs⟩, fun h => h.1⟩
  · rw [see_snoc, see_truth, ih]
    have hp : ∀ m, placesA (seeReg r N l) m = placesA r m := fun _ => rfl
    constructor
    · rintro ⟨⟨h1, h2⟩, h3⟩
      refine ⟨h1, fun m hm s hs => ?_⟩
      rw [List.length_append, List.length_singleton] at hs
      by_cases e : s = l.length
      · subst e
        have := h3 N m hm
        rw [hp] at this
        unfold seenB at this
        simp only [bne_self_eq_false, Bool.false_or, Int.toNat_natCast, beq_iff_eq] at this
        rw [zAQ]; exact this
      · rw [zAL (by omega)]; exact h2 m hm s (by omega)
    · rintro ⟨h1, h2⟩
      refine ⟨⟨h1, fun m hm s hs => ?_⟩, fun j x' hj => ?_⟩
      · have := h2 m hm s (by rw [List.length_append]; omega)
        rwa [zAL hs] at this
      · unfold seenB
        by_cases e : j = N
        · subst e
          have := h2 x' hj l.length (by rw [List.length_append, List.length_singleton]; omega)
          rw [zAQ] at this
          rw [hp, Int.toNat_natCast, this]; simp
        · have : ((N : Int) != (j : Int)) = true := by simp; omega
          rw [this]; rfl
/-- The first sheets are in these houses at the end of day N, in some truth. -/
def heldB (r : Reg) (N : Nat) (hs : List Int) : Bool := (allDays r).any fun o => (List.range hs.length).all fun s => houseAt o N s == hs.getD s 0
theorem zAH {r : Reg} {N : Nat} {hs : List Int} : heldB r N hs = true ↔ ∃ o ∈ allDays r, ∀ s, s < hs.length → houseAt o N s = hs.getD s 0 := by
  unfold heldB
  simp only [List.any_eq_true, List.all_eq_true, List.mem_range, beq_iff_eq]
theorem zDV {r : Reg} {N : Nat} {o : List Int} (v : Valid r) (hN : N ≤ 9) (ho : o ∈ allDays r) : ∃ t ds m, Truth r t ds ∧ o = daysOf r t ∧ ds[N]? = some m ∧ Pair r N m o := by
  unfold allDays at ho
  obtain ⟨t, ht, rfl⟩ := List.mem_map.1 ho
  obtain ⟨ds, T⟩ := (km v).1 ht
  obtain ⟨m, h1, h2⟩ := k9 v T hN
  exact ⟨t, ds, m, T, rfl, h1, h2⟩
theorem zEZ {r : Reg} {N s : Nat} {o : List Int} (v : Valid r) (hN : N ≤ 9) (ho : o ∈ allDays r) (hs : s < r.start.length) : 0 ≤ houseAt o N s ∧ houseAt o N s < r.houses := by
  obtain ⟨_, _, m, _, _, _, p⟩ := zDV v hN ho
  have h4 := v.s4
  rw [p.1 s (by omega)]
  exact p.2.2 s hs
theorem holds_held {r : Reg} {N : Nat} {hs : List Int} (v : Valid r) (vx : Valid (seeReg r N hs)) (hN : N ≤ 9) (hl : hs.length ≤ r.start.length) : hasT (seeReg r N hs) ↔ heldB r N hs = true := by
  have h4 := v.s4
  unfold hasT
  rw [goes_truth vx, zAH]
  constructor
  · rintro ⟨t, ds, T⟩
    obtain ⟨T1, h1⟩ := (zA5 t ds hs).1 T
    obtain ⟨m, hm, p⟩ := k9 v T1 hN
    refine ⟨daysOf r t, ?_, fun s hs' => ?_⟩
    · unfold allDays; exact List.mem_map.2 ⟨t, (km v).2 ⟨ds, T1⟩, rfl⟩
    · rw [p.1 s (by omega)]; exact h1 m hm s hs'
  · rintro ⟨o, ho, h⟩
    obtain ⟨t, ds, m, T, rfl, hm, p⟩ := zDV v hN ho
    refine ⟨t, ds, (zA5 t ds hs).2 ⟨T, fun m' hm' s hs' => ?_⟩⟩
    rw [hm] at hm'; cases hm'
    rw [← p.1 s (by omega)]; exact h s hs'
/-- The houses in which sheet s can be. -/
def candL (r : Reg) (N : Nat) (s : Nat) : List Int := refHolders r (allDays r) s N r.houses.toNat
theorem cand_mem {r : Reg} {N s : Nat} {y : Int} (v : Valid r) (hN : N ≤ 9) (hs : s < r.start.length) : y ∈ candL r N s ↔ ∃ o ∈ allDays r, houseAt o N s = y := by
  unfold candL refHolders
  simp only [List.mem_map, List.mem_filter, List.mem_range, List.any_eq_true, beq_iff_eq]
  constructor
  · rintro ⟨h, ⟨_, o, ho, e⟩, rfl⟩; exact ⟨o, ho, e⟩
  · rintro ⟨o, ho, e⟩
    have := zEZ v hN ho hs
    exact ⟨y.toNat, ⟨by omega, o, ho, by omega⟩, by show ((y.toNat : Nat) : Int) = y; omega⟩
theorem held_more {r : Reg} {N : Nat} (l : List Int) (x : Int) (h : heldB r N (l ++ [x]) = true) : heldB r N l = true := by
  rw [zAH] at h ⊢
  obtain ⟨o, ho, h⟩ := h
  exact ⟨o, ho, fun s hs => by have := h s (by rw [List.length_append]; omega); rwa [zAL hs] at this⟩
/-- All ways in which all sheets can be in houses. -/
def waysL (r : Reg) (N : Nat) : List (List Int) := putL (heldB r N) (candL r N) r.start.length []
theorem zCO {r : Reg} {N : Nat} {p : List Int} (v : Valid r) (hN : N ≤ 9) : p ∈ waysL r N ↔ p.length = r.start.length ∧ ∃ o ∈ allDays r, ∀ s, s < p.length → houseAt o N s = p.getD s 0 := by
  unfold waysL
  rw [zDM held_more _ _ _ fun l y hl hlt => ?_]
  · constructor
    · rintro ⟨t, rfl, h1, h2⟩; exact ⟨h1, zAH.1 h2⟩
    · rintro ⟨h1, h2⟩; exact ⟨p, rfl, h1, zAH.2 h2⟩
  · rw [List.length_nil, Nat.zero_add] at hlt
    obtain ⟨o, ho, h⟩ := zAH.1 hl
    refine (cand_mem v hN hlt).2 ⟨o, ho, ?_⟩
    have := h l.length (by rw [List.length_append, List.length_singleton]; omega)
    rwa [zAQ] at this
/-- How many sheets each house has. -/
def countH (H : Nat) (p : List Int) : List Int := (List.range H).map fun (a : Nat) => ((p.countP fun x => x == (a : Int) : Nat) : Int)
theorem y7 {H : Nat} {p : List Int} : (countH H p).length = H := by simp [countH]
/-- The reference's test. -/
def isH (r : Reg) (N : Nat) (l : List Int) : Bool := (allDays r).any fun o => (List.range l.length).all fun (a : Nat) => ((countAt o N r.start.length (a : Int) : Nat) : Int) == l.getD a 0
theorem zDD {r : Reg} {N : Nat} {l : List Int} : isH r N l = true ↔ ∃ o ∈ allDays r, ∀ a, a < l.length → ((countAt o N r.start.length (a : Int) : Nat) : Int) = l.getD a 0 := by
  unfold isH
  simp only [List.any_eq_true, List.all_eq_true, List.mem_range, beq_iff_eq]
theorem countAt_le {o : List Int} {N s : Nat} {a : Int} : countAt o N s a ≤ s := by
  unfold countAt
  have := List.countP_le_length (p := fun j => houseAt o N j == a) (l := List.range s)
  simpa using this
theorem zD0 {r : Reg} {N : Nat} (v : Valid r) (l : List Int) (h : isH r N l = true) : ∀ x ∈ l, 0 ≤ x ∧ x ≤ 4 := fun x hx => by
  obtain ⟨o, _, ho⟩ := zDD.1 h
  obtain ⟨a, ha, rfl⟩ := List.mem_iff_getElem.1 hx
  have h1 := ho a ha
  have h2 := countAt_le (o := o) (N := N) (s := r.start.length) (a := (a : Int))
  have h4 := v.s4
  rw [List.getD_eq_getElem?_getD, List.getElem?_eq_getElem ha, Option.getD_some] at h1
  omega
theorem ways_count {r : Reg} {N : Nat} {p o : List Int} {a : Int} (hl : p.length = r.start.length) (ho : ∀ s, s < p.length → houseAt o N s = p.getD s 0) : p.countP (fun x => x == a) = countAt o N r.start.length a := by
  unfold countAt
  have : p = (List.range r.start.length).map fun s => houseAt o N s := by
    apply List.ext_getElem?
    intro i
    rw [List.getElem?_map]
    by_cases hi : i < r.start.length
    · rw [List.getElem?_range hi, Option.map_some, ho i (by omega), List.getD_eq_getElem?_getD, List.getElem?_eq_getElem (by omega)]; rfl
    · rw [List.getElem?_eq_none (by omega), List.getElem?_eq_none (by simpa using hi)]; rfl
  rw [this, List.countP_map]; rfl
/-- The hands, before they are sorted. -/
def rawHands (r : Reg) (N : Nat) : List (List Int) := (waysL r N).foldl (fun o p => addNew o (countH r.houses.toNat p)) []
theorem zEA {r : Reg} {N : Nat} {l : List Int} (v : Valid r) (hN : N ≤ 9) : l ∈ rawHands r N ↔ l.length = r.houses.toNat ∧ isH r N l = true := by
  unfold rawHands
  rw [k8]
  constructor
  · rintro (h | ⟨p, hp, rfl⟩)
    · cases h
    · obtain ⟨h1, o, ho, h2⟩ := (zCO v hN).1 hp
      refine ⟨y7, zDD.2 ⟨o, ho, fun a ha => ?_⟩⟩
      rw [y7] at ha
      unfold countH
      rw [List.getD_eq_getElem?_getD, List.getElem?_map, List.getElem?_range ha, Option.map_some, Option.getD_some, ways_count h1 h2]
  · rintro ⟨h1, h2⟩
    obtain ⟨o, ho, h2⟩ := zDD.1 h2
    right
    have hw : (List.range r.start.length).map (fun s => houseAt o N s) ∈ waysL r N := (zCO v hN).2 ⟨by simp, o, ho, fun s hs => by
      have hs' : s < r.start.length := by simpa using hs
      rw [List.getD_eq_getElem?_getD, List.getElem?_map, List.getElem?_range hs']; rfl⟩
    refine ⟨_, hw, ?_⟩
    apply List.ext_getElem?
    intro a
    by_cases ha : a < r.houses.toNat
    · have h3 := h2 a (by omega)
      unfold countH
      rw [List.getElem?_map, List.getElem?_range ha, Option.map_some]
      rw [List.getD_eq_getElem?_getD, List.getElem?_eq_getElem (by omega), Option.getD_some] at h3
      rw [List.getElem?_eq_getElem (by omega), ← h3]
      congr 2
      unfold countAt
      rw [List.countP_map]; rfl
    · rw [List.getElem?_eq_none (by omega), List.getElem?_eq_none (by rw [y7]; omega)]
theorem raw_nodup {r : Reg} {N : Nat} : (rawHands r N).Nodup := zAW _ _ List.nodup_nil
/-- All possible hands, in order. -/
def handsL (r : Reg) (N : Nat) : List (List Int) := refHandsL r.houses.toNat (isH r N)
theorem sorted_hands {r : Reg} {N : Nat} {H : List (List Int)} (v : Valid r) (hN : N ≤ 9) (hs : Sorted8 H) (hm : ∀ l, l ∈ H ↔ l ∈ rawHands r N) : H = handsL r N :=
  hands_law hs (fun l h _ => zD0 v l h) fun l => by rw [hm, zEA v hN]
theorem zCr {r : Reg} {N : Nat} {l : List Int} (v : Valid r) : l ∈ handsL r N ↔ l.length = r.houses.toNat ∧ isH r N l = true := zA3 fun l h _ => zD0 v l h
theorem hands_bd {r : Reg} {N : Nat} {l : List Int} (v : Valid r) (h : l ∈ handsL r N) : l.length = r.houses.toNat ∧ ∀ x ∈ l, 0 ≤ x ∧ x ≤ 4 := ⟨((zCr v).1 h).1, zD0 v l ((zCr v).1 h).2⟩
end Go.Proofs.YtaokpncjemkhcaaGreat
namespace Go.Proofs.YtaokpncjemkhcaaGreat
open Go.RowKit
set_option maxRecDepth 20000
set_option linter.all false
theorem ask_ev {r : Reg} {is : Bool} {N : Nat} {out : List Nat} {e : Int} (v : Valid r) (his : is = true) (hN : N ≤ 9) (h : AskP r is (N : Nat) out e) : EvOK r N out ∧ e = if allDays r = [] then 9 else 0 := by
  have h0 := zBQ v
  rcases h with ⟨k, _, _⟩ | ⟨_, k, _⟩ | ⟨_, _, n, hn, h9, hev, he⟩
  · exact (k h0).elim
  · rw [his] at k; simp [dayB] at k; omega
  · obtain rfl : N = n := by omega
    refine ⟨hev, he.trans ?_⟩
    by_cases ho : out = []
    · rw [if_pos ((zEX v hN hev).1 ho), ho]; rfl
    · rw [if_neg (fun e => ho ((zEX v hN hev).2 e))]
      cases out with
      | nil => exact (ho rfl).elim
      | cons _ _ => rfl
@[reducible] def seeC (r : Reg) (N : Nat) (hs : List Int) : List TV := [.d (.int .i64 r.houses), .d (ints r.start), .d (entsD r.entries), .d (sightsD (r.sights ++ asSights N 0 hs))]
theorem see_zero {r : Reg} {N : Nat} : ((regD r : D) |> fun d => (TV.d d).cells) = seeC r N [] := by
  show [TV.d _, TV.d _, TV.d _, TV.d _] = [TV.d _, TV.d _, TV.d _, TV.d _]
  rw [show r.sights ++ asSights N 0 [] = r.sights from List.append_nil _]
theorem zCA {r : Reg} {N : Nat} {hs : List Int} {i : Nat} {h : Int} (hh : hs[i]? = some h) : (r.sights ++ asSights N 0 (hs.take i)).map sightE ++ [sightE ⟨(i : Int), h, (N : Int)⟩] = (r.sights ++ asSights N 0 (hs.take (i + 1))).map sightE := by
  have hi := (List.getElem?_eq_some_iff.1 hh).1
  rw [List.take_add_one, hh, Option.toList_some, kg, ← List.append_assoc, List.map_append (l₁ := r.sights ++ asSights N 0 (hs.take i)), List.length_take, Nat.min_eq_left (by omega), Nat.zero_add]; rfl
theorem see_len {r : Reg} {N : Nat} {hs : List Int} {i : Nat} : (r.sights ++ asSights N 0 (hs.take i)).length ≤ r.sights.length + hs.length := by
  rw [List.length_append, ko, List.length_take]; omega
def SegX (xs : List (List D)) (j : Nat) (ys : List (List Int)) : Prop := ∃ pre post : List (List D), xs = pre ++ ys.map (fun p => [ints p]) ++ post ∧ pre.length = j
theorem seg_get {xs : List (List D)} {j : Nat} {p : List Int} (h : SegX xs j [p]) : xs[j]? = some [ints p] := by
  obtain ⟨pre, post, rfl, rfl⟩ := h
  rw [List.append_assoc, List.getElem?_append_right (Nat.le_refl _), Nat.sub_self]; rfl
theorem zD9 {xs : List (List D)} {j : Nat} {a b : List (List Int)} (h : SegX xs j (a ++ b)) : SegX xs j a ∧ SegX xs (j + a.length) b := by
  obtain ⟨pre, post, rfl, rfl⟩ := h
  refine ⟨⟨pre, b.map (fun p => [ints p]) ++ post, by simp [List.append_assoc], rfl⟩, ⟨pre ++ a.map (fun p => [ints p]), post, by simp [List.append_assoc], by simp⟩⟩
abbrev putN (l : Ldg) (N k : Nat) (hs : List Int) : List (List Int) := putL (heldB l.reg N) (candL l.reg N) k hs
/-- What the first houses of those that a sheet can be in yield. -/
def firsts (l : Ldg) (N k : Nat) (hs : List Int) (c : Nat) : List (List Int) := ((candL l.reg N hs.length).take c).flatMap fun h => putN l N k (hs ++ [h])
theorem put_step {l : Ldg} {N k : Nat} {hs : List Int} (h : heldB l.reg N hs = true) : putN l N (k + 1) hs = firsts l N k hs (candL l.reg N hs.length).length := by
  unfold firsts
  rw [List.take_length]
  show (if heldB l.reg N hs = true then _ else _) = _
  rw [if_pos h]
theorem put_zero {l : Ldg} {N : Nat} {hs : List Int} (h : heldB l.reg N hs = true) : putN l N 0 hs = [hs] := if_pos h
theorem put_not {l : Ldg} {N k : Nat} {hs : List Int} (h : heldB l.reg N hs = false) : putN l N k hs = [] := by
  cases k <;> exact if_neg (by rw [h]; simp)
theorem zCa {l : Ldg} {N k c : Nat} {hs : List Int} {h : Int} (hc : (candL l.reg N hs.length)[c]? = some h) : firsts l N k hs (c + 1) = firsts l N k hs c ++ putN l N k (hs ++ [h]) := by
  unfold firsts
  rw [List.take_add_one, hc, List.flatMap_append]; simp
theorem first_seg {l : Ldg} {N k c j : Nat} {hs : List Int} {xs : List (List D)} {h : Int} (hx : SegX xs j (firsts l N k hs (candL l.reg N hs.length).length)) (hc : (candL l.reg N hs.length)[c]? = some h) : SegX xs (j + (firsts l N k hs c).length) (putN l N k (hs ++ [h])) := by
  have e : firsts l N k hs (candL l.reg N hs.length).length = firsts l N k hs c ++ (putN l N k (hs ++ [h]) ++ ((candL l.reg N hs.length).drop (c + 1)).flatMap fun h => putN l N k (hs ++ [h])) := by
    rw [← List.append_assoc, ← zCa hc]
    unfold firsts
    rw [List.take_length, ← List.flatMap_append, List.take_append_drop]
  rw [e] at hx
  exact (zD9 (zD9 hx).2).1
@[reducible] def putCa (l : Ldg) (b2 b3 : Nat) : List TV := [.d (.ptr (ldgC l)), .val (.pointer (some ⟨b2, 0, none⟩)), .val (.pointer (some ⟨b3, 0, none⟩))]
@[reducible] def putRs {ι : Type} (l : Ldg) (lq : Nat) (R : ι → Res) (b2 b3 : Nat) (i : ι) : List (Nat × Res) := [(7000, R i), (1031, .box b2 199 [.val (.func (.yield lq) #[] #[])]), (1032, .box b3 199 [.fn (.func 139) [] (putCa l b2 b3)])]
theorem yf {hs : List Int} {h : Int} : ints (hs ++ [h]) = .slice 1 (hs.map intE ++ [intE h]) := by unfold ints; rw [List.map_append]; rfl
def PutX {ι : Type} (A : Nat → ι → Prop) (B : ι → Prop) (j n : Nat) : Type := {x : Bool × ι // (x.1 = true → A (j + n) x.2) ∧ (x.1 = false → B x.2)}
def PutsOK (l : Ldg) (N : Nat) {ι : Type} (lq : Nat) (R : ι → Res) (A : Nat → ι → Prop) (B : ι → Prop) (xs : List (List D)) (b2 b3 k : Nat) : Prop := ∀ (hs : List Int) (j : Nat) (i : ι), hs.length + k = l.reg.start.length → (∀ x ∈ hs, 0 ≤ x ∧ x ≤ l.reg.houses - 1) → SegX xs j (putN l N k hs) → A j i →
  EffAt Tryz.prog 139 (.d (ints hs) :: putCa l b2 b3) (putRs l lq R b2 b3 i) (X := PutX A B j (putN l N k hs).length) (fun x => .d (.bool x.1.1)) (fun x => putRs l lq R b2 b3 x.1.2)
theorem zEI {r : Reg} {N s : Nat} (h4 : r.houses ≤ 4) : (candL r N s).length ≤ 4 ∧ ∀ x ∈ candL r N s, 0 ≤ x ∧ x ≤ r.houses - 1 := by
  unfold candL refHolders
  constructor
  · rw [List.length_map]
    refine Nat.le_trans (List.length_filter_le _ _) ?_
    rw [List.length_range]; omega
  · intro x hx
    obtain ⟨y, hy, rfl⟩ := List.mem_map.1 hx
    have := List.mem_range.1 (List.mem_filter.1 hy).1
    show 0 ≤ ((y : Nat) : Int) ∧ ((y : Nat) : Int) ≤ _
    omega
theorem yP (l : List Int) (hl : l.length ≤ 1000) : EffAt Tryz.prog 77 [.d (ints l)] [] (X := Value) (fun v => .val v) (fun v => [(1021, .row v 3 1 (l.map intE))]) := by
 refine EffAt.of_awp Tryz.func77 rfl (by kernel_rfl) rfl fun Γ hn => ?_
 refine zC (zB ?_)
 refine sq rfl rfl hn rfl (zF rfl rfl) ?_
 refine zE (zA (zC (zC (zB ?_))))
 refine sq rfl rfl hn rfl (zG rfl rfl) ?_
 refine stepW (s_eqlNil rfl rfl rfl (nb hn rfl) Tryz.underlying22 rfl) fun ⟨nil4, hnil4⟩ => ?_
 refine zE (zA ?_)
 refine zS rfl (fun hb0 => ?_) (fun hb0 => ?_)
 ·
  obtain rfl : l = [] := by have h0 := hnil4 hb0; simpa using h0
  refine zC (zB ?_)
  refine sq rfl rfl hn rfl (zF rfl rfl) ?_
  refine zE (zA (zO (zL ?_)))
  refine kF (g_nil (t := 2) (id := 1021) 3 1 rfl (nb hn rfl)) ?_
  exact ret_E (.inl rfl) (.slice none 0 0) (yB rfl (.tmp rfl)) ⟨rfl, trivial⟩
 ·
  refine zU (zA (zC (zB ?_)))
  refine stepW (s_buildRow 1021 rfl rfl rfl (nb hn rfl) Tryz.underlying22 sz3 zr3 rfl rfl rfl (show _ = [] from by kernel_rfl) (by kernel_rfl) rfl rfl rfl rfl rfl) fun v5 => ?_
  refine sq rfl rfl hn rfl (zG rfl rfl) ?_
  refine stepW (s_append (id := 1021) rfl rfl rfl (nb hn rfl) elt22 trivial rfl rfl rfl (by simp [chunk]; omega) (by simp [chunk]; omega) (fun b hb => trivial)) fun v7 => ?_
  refine sq rfl rfl hn rfl (zF rfl rfl) ?_
  refine zE (zA (zO ?_))
  exact ret_E (.inl rfl) v7 (yB rfl (.tmp rfl)) ⟨rfl, trivial⟩
theorem zAA (l : List Sight5) (hl : l.length ≤ 1000) : EffAt Tryz.prog 151 [.d (sightsD l)] [] (X := Value) (fun v => .val v) (fun v => [(1020, .row v 90 3 (l.map sightE))]) := by
 refine EffAt.of_awp Tryz.func151 rfl (by kernel_rfl) rfl fun Γ hn => ?_
 refine zC (zB ?_)
 refine sq rfl rfl hn rfl (zF rfl rfl) ?_
 refine zE (zA (zC (zC (zB ?_))))
 refine sq rfl rfl hn rfl (zG rfl rfl) ?_
 refine stepW (s_eqlNil rfl rfl rfl (nb hn rfl) Tryz.underlying42 rfl) fun ⟨nil4, hnil4⟩ => ?_
 refine zE (zA ?_)
 refine zS rfl (fun hb0 => ?_) (fun hb0 => ?_)
 ·
  obtain rfl : l = [] := by have h0 := hnil4 hb0; simpa using h0
  refine zC (zB ?_)
  refine sq rfl rfl hn rfl (zF rfl rfl) ?_
  refine zE (zA (zO (zL ?_)))
  refine kF (g_nil (t := 2) (id := 1020) 90 3 rfl (nb hn rfl)) ?_
  exact ret_E (.inl rfl) (.slice none 0 0) (yB rfl (.tmp rfl)) ⟨rfl, trivial⟩
 ·
  refine zU (zA (zC (zB ?_)))
  refine stepW (s_buildRow 1020 rfl rfl rfl (nb hn rfl) Tryz.underlying42 sz90 zr90 rfl rfl rfl (show _ = [] from by kernel_rfl) (by kernel_rfl) rfl rfl rfl rfl rfl) fun v5 => ?_
  refine sq rfl rfl hn rfl (zG rfl rfl) ?_
  refine stepW (s_append (id := 1020) rfl rfl rfl (nb hn rfl) elt42 trivial rfl rfl rfl (by simp [chunk]; omega) (by simp [chunk]; omega) (fun b hb => trivial)) fun v7 => ?_
  refine sq rfl rfl hn rfl (zF rfl rfl) ?_
  refine zE (zA (zO ?_))
  exact ret_E (.inl rfl) v7 (yB rfl (.tmp rfl)) ⟨rfl, trivial⟩
theorem holds_ok (l : Ldg) (N : Nat) (hs : List Int) (hd5 : l.day = (N : Int)) (v : Valid l.reg) (vx : Valid (seeReg l.reg N hs)) (hN9 : N ≤ 9) (hl5 : hs.length ≤ l.reg.start.length) : PureAt Tryz.prog 140 [ldgD l, ints hs] (.bool (heldB l.reg N hs)) := by
 have hs4 := v.s4; have hg4 := v.g4
 refine PureAt.of_awp Tryz.func140 rfl (by kernel_rfl) (Nat.le_of_ble_eq_true rfl) fun Γ hn hl => ?_
 refine zC (zB ?_)
 refine stepW (zr 2 rfl rfl rfl (nb hn rfl) rfl rfl) fun b2 => ?_
 refine sq rfl rfl hn rfl (zF rfl rfl) ?_
 refine zE (zA (zC ?_))
 refine zx (zn (t := 2) 2 rfl (nb hn rfl) rfl rfl trivial) ?_
 refine zB ?_
 refine sq rfl rfl hn rfl (zN rfl rfl Tryz.underlying50 rfl sz44 rfl) ?_
 refine sq rfl rfl hn rfl (ze rfl rfl Tryz.underlying44 rfl sz44 rfl rfl seesF0) ?_
 refine stepW (zh 5 rfl rfl rfl (nb hn rfl) zr44 rfl rfl) fun b5 => ?_
 refine stepW (zl rfl rfl rfl rfl rfl rfl (id := 5) rfl sz44 rfl (Nat.le_of_ble_eq_true rfl) rfl trivial) fun _ => ?_
 refine zE (zA (zC (zC (zB ?_))))
 refine sq rfl rfl hn rfl (zG rfl rfl) ?_
 refine sq rfl rfl hn rfl (z7 rfl rfl Tryz.underlying22) ?_
 refine sq rfl rfl hn rfl (zG rfl rfl) ?_
 refine zE (zA (zV ?_))
 refine awp_loop_on (ι := {x : Nat // x ≤ hs.length}) (fun x => (14, true, .d (.int .i64 (x.1 : Nat))) :: anys [15, 16, 17, 18, 6, 7, 19, 20, 21, 22, 23, 24, 25, 26, 27, 28, 29, 30]) (fun x => (5, .box b5 44 (seeC l.reg N (hs.take x.1))) :: gones [1020]) (fun x => hs.length - x.1) ⟨0, Nat.zero_le _⟩ ⟨.inl rfl, zJ _⟩ ⟨.inl (congrArg (fun z => some (Res.box b5 44 z)) see_zero), zX _⟩ ?_
 rintro ⟨i, hi⟩
 dsimp only
 refine zC (zB ?_)
 refine sq rfl rfl hn rfl (yJ rfl rfl rfl) ?_
 refine zE (zA (zC ?_))
 refine zS rfl (fun hb0 => ?_) (fun hb0 => ?_)
 ·
  have hil : i < hs.length := by simpa using hb0
  obtain ⟨x, hh⟩ := z2 hil
  have hsl := see_len (r := l.reg) (N := N) (hs := hs) (i := i)
  refine zU (zA (zC (zV (zC (zB ?_)))))
  refine sq rfl rfl hn rfl (zG rfl rfl) ?_
  refine sq rfl rfl hn rfl (q_index (i := i) rfl rfl rfl Tryz.underlying22 sz3 rfl (mget hh)) ?_
  refine sq rfl rfl hn rfl (zR rfl rfl Tryz.underlying3 rfl seesF0) ?_
  refine sq rfl rfl hn rfl (zF rfl rfl) ?_
  refine sq rfl rfl hn rfl (zF rfl rfl) ?_
  refine zE (zA ?_)
  refine yC (W := fun b => True) fmo ?_
  refine d1q (i := 0) rfl (by kernel_rfl) (fun _ _ _ _ h => h) rfl rfl hn rfl (zH rfl rfl Tryz.underlying44 rfl sz42) ?_
  refine d1q (i := 3) rfl (by kernel_rfl) (fun _ _ _ _ h => h) rfl rfl hn rfl (zG rfl rfl) ?_
  refine d1q (i := 4) rfl (by kernel_rfl) (fun _ _ _ _ h => h) rfl rfl hn rfl (zG rfl rfl) ?_
  refine d1q (i := 5) rfl (by kernel_rfl) (fun _ _ _ _ h => h) rfl rfl hn rfl (zN rfl rfl Tryz.underlying50 rfl sz3 rfl) ?_
  refine d1q (i := 6) rfl (by kernel_rfl) (fun _ _ _ _ h => h) rfl rfl hn rfl (zR rfl rfl Tryz.underlying3 rfl seesFA) ?_
  refine d1q (i := 7) rfl (by kernel_rfl) (fun _ _ _ _ h => h) rfl rfl hn rfl (zg rfl bt90 rfl rfl rfl rfl rfl) ?_
  refine zM ?_
  refine yx 1 [8] (by kernel_rfl) ⟨?_, ?_, trivial⟩
  ·
   refine br rfl (yA _ [] (zI rfl) rfl (nb hn rfl) (fun _ => trivial) (fun _ => zQ rfl rfl (id := 5) rfl Tryz.underlying42 rfl rfl sees0)) fun _ => ?_
   refine d2_of_d1 (zM ?_)
   refine yx 2 [8] (by kernel_rfl) ⟨?_, ?_, trivial⟩
   ·
    refine br rfl (s_callE (zAA (l.reg.sights ++ asSights N 0 (hs.take i)) (by omega)) rfl rfl rfl (nb hn rfl) (.d rfl) rfl (.refl _) trivial (fun _ => rfl) (fun _ _ => trivial)) fun vc => ?_
    refine d2_of_d1 (zM ?_)
    refine zk (i := 8) (by kernel_rfl) rfl (zP rfl rfl rfl (nb hn rfl) Tryz.underlying42 sz90 zr90 rfl rfl rfl (show _ = [.d (.int .i64 0), .d (.int .i64 0), .d (.int .i64 0)] from by kernel_rfl) (by kernel_rfl) rfl rfl rfl rfl rfl) fun _ => ?_
    refine d2_of_d1 (zM ?_)
    refine zk (i := 9) (by kernel_rfl) rfl (s_append (id := 1020) rfl rfl rfl (nb hn rfl) elt42 trivial rfl rfl rfl (by simp only [chunk, List.length_map, List.length_cons, List.length_nil]; omega) (by simp only [chunk, List.length_map, List.length_cons, List.length_nil]; omega) (fun b hb => trivial)) fun v28 => ?_
    refine d2_of_d1 ?_
    refine d1q (i := 10) rfl (by kernel_rfl) (fun _ _ _ _ h => h) rfl rfl hn rfl (zH rfl rfl Tryz.underlying44 rfl sz42) ?_
    refine zM ?_
    refine zAR (g_row (t := 28) (id := 1020) rfl rfl) ?_
    refine zk (i := 11) (by kernel_rfl) rfl (s_store1 rfl rfl rfl rfl rfl rfl (id := 5) rfl sz42 (Nat.le_of_ble_eq_true rfl) rfl trivial) fun _ => ?_
    refine d2_of_d1 (zM ?_)
    refine zv (by kernel_rfl) ?_
    refine za (zA (zB ?_))
    refine sq rfl rfl hn rfl (z6 rfl rfl rfl (r := ((i + 1 : Nat) : Int)) (i64w (by omega) (by omega))) ?_
    refine sq rfl rfl hn rfl (zG rfl rfl) ?_
    refine zE ?_
    exact zZ ⟨i + 1, by omega⟩ ⟨.inl rfl, zJ _⟩ ⟨.inl (congrArg (fun z => some (Res.box b5 44 [.d (.int .i64 l.reg.houses), .d (ints l.reg.start), .d (entsD l.reg.entries), .d (.slice 3 z)])) (by rw [hd5]; exact zCA hh)), zX _⟩ (by simp only; omega) (by repeat (first | exact kr _ | refine kc rfl ?_)) (by repeat (first | exact kr _ | refine kc rfl ?_))
   ·
    refine br rfl (zP rfl rfl rfl (nb hn rfl) Tryz.underlying42 sz90 zr90 rfl rfl rfl (show _ = [.d (.int .i64 0), .d (.int .i64 0), .d (.int .i64 0)] from by kernel_rfl) (by kernel_rfl) rfl rfl rfl rfl rfl) fun _ => ?_
    refine d2_of_d1 (zM ?_)
    refine zk (i := 2) (by kernel_rfl) rfl (s_callE (zAA (l.reg.sights ++ asSights N 0 (hs.take i)) (by omega)) rfl rfl rfl (nb hn rfl) (.d rfl) rfl (.refl _) trivial (fun _ => rfl) (fun _ _ => trivial)) fun vc => ?_
    refine d2_of_d1 (zM ?_)
    refine zk (i := 9) (by kernel_rfl) rfl (s_append (id := 1020) rfl rfl rfl (nb hn rfl) elt42 trivial rfl rfl rfl (by simp only [chunk, List.length_map, List.length_cons, List.length_nil]; omega) (by simp only [chunk, List.length_map, List.length_cons, List.length_nil]; omega) (fun b hb => trivial)) fun v28 => ?_
    refine d2_of_d1 ?_
    refine d1q (i := 10) rfl (by kernel_rfl) (fun _ _ _ _ h => h) rfl rfl hn rfl (zH rfl rfl Tryz.underlying44 rfl sz42) ?_
    refine zM ?_
    refine zAR (g_row (t := 28) (id := 1020) rfl rfl) ?_
    refine zk (i := 11) (by kernel_rfl) rfl (s_store1 rfl rfl rfl rfl rfl rfl (id := 5) rfl sz42 (Nat.le_of_ble_eq_true rfl) rfl trivial) fun _ => ?_
    refine d2_of_d1 (zM ?_)
    refine zv (by kernel_rfl) ?_
    refine za (zA (zB ?_))
    refine sq rfl rfl hn rfl (z6 rfl rfl rfl (r := ((i + 1 : Nat) : Int)) (i64w (by omega) (by omega))) ?_
    refine sq rfl rfl hn rfl (zG rfl rfl) ?_
    refine zE ?_
    exact zZ ⟨i + 1, by omega⟩ ⟨.inl rfl, zJ _⟩ ⟨.inl (congrArg (fun z => some (Res.box b5 44 [.d (.int .i64 l.reg.houses), .d (ints l.reg.start), .d (entsD l.reg.entries), .d (.slice 3 z)])) (by rw [hd5]; exact zCA hh)), zX _⟩ (by simp only; omega) (by repeat (first | exact kr _ | refine kc rfl ?_)) (by repeat (first | exact kr _ | refine kc rfl ?_))
  ·
   refine br rfl (zP rfl rfl rfl (nb hn rfl) Tryz.underlying42 sz90 zr90 rfl rfl rfl (show _ = [.d (.int .i64 0), .d (.int .i64 0), .d (.int .i64 0)] from by kernel_rfl) (by kernel_rfl) rfl rfl rfl rfl rfl) fun _ => ?_
   refine d2_of_d1 (zM ?_)
   refine zk (i := 1) (by kernel_rfl) rfl (yA _ [] (zI rfl) rfl (nb hn rfl) (fun _ => trivial) (fun _ => zQ rfl rfl (id := 5) rfl Tryz.underlying42 rfl rfl sees0)) fun _ => ?_
   refine d2_of_d1 (zM ?_)
   refine zk (i := 2) (by kernel_rfl) rfl (s_callE (zAA (l.reg.sights ++ asSights N 0 (hs.take i)) (by omega)) rfl rfl rfl (nb hn rfl) (.d rfl) rfl (.refl _) trivial (fun _ => rfl) (fun _ _ => trivial)) fun vc => ?_
   refine d2_of_d1 (zM ?_)
   refine zk (i := 9) (by kernel_rfl) rfl (s_append (id := 1020) rfl rfl rfl (nb hn rfl) elt42 trivial rfl rfl rfl (by simp only [chunk, List.length_map, List.length_cons, List.length_nil]; omega) (by simp only [chunk, List.length_map, List.length_cons, List.length_nil]; omega) (fun b hb => trivial)) fun v28 => ?_
   refine d2_of_d1 ?_
   refine d1q (i := 10) rfl (by kernel_rfl) (fun _ _ _ _ h => h) rfl rfl hn rfl (zH rfl rfl Tryz.underlying44 rfl sz42) ?_
   refine zM ?_
   refine zAR (g_row (t := 28) (id := 1020) rfl rfl) ?_
   refine zk (i := 11) (by kernel_rfl) rfl (s_store1 rfl rfl rfl rfl rfl rfl (id := 5) rfl sz42 (Nat.le_of_ble_eq_true rfl) rfl trivial) fun _ => ?_
   refine d2_of_d1 (zM ?_)
   refine zv (by kernel_rfl) ?_
   refine za (zA (zB ?_))
   refine sq rfl rfl hn rfl (z6 rfl rfl rfl (r := ((i + 1 : Nat) : Int)) (i64w (by omega) (by omega))) ?_
   refine sq rfl rfl hn rfl (zG rfl rfl) ?_
   refine zE ?_
   exact zZ ⟨i + 1, by omega⟩ ⟨.inl rfl, zJ _⟩ ⟨.inl (congrArg (fun z => some (Res.box b5 44 [.d (.int .i64 l.reg.houses), .d (ints l.reg.start), .d (entsD l.reg.entries), .d (.slice 3 z)])) (by rw [hd5]; exact zCA hh)), zX _⟩ (by simp only; omega) (by repeat (first | exact kr _ | refine kc rfl ?_)) (by repeat (first | exact kr _ | refine kc rfl ?_))
 ·
  obtain rfl : i = hs.length := by simp at hb0; omega
  rw [List.take_length]
  refine zw (zK (zK (zW (zA (zC (zB ?_))))))
  refine sq rfl rfl hn rfl (zY rfl rfl (id := 5) rfl Tryz.underlying44 rfl sz44 rfl rfl sees0) ?_
  refine stepW (s_callE (explain_ok (seeReg l.reg N hs)) rfl rfl rfl (nb hn rfl) (.d rfl) rfl (.refl _) trivial (fun _ => rfl) (fun _ _ => trivial)) fun xE => ?_
  refine sq rfl rfl hn rfl (zG rfl rfl) ?_
  refine sq rfl rfl hn rfl (zT rfl rfl rfl) ?_
  refine sq rfl rfl hn rfl (zT rfl rfl rfl) ?_
  refine sq rfl rfl hn rfl (zF rfl rfl) ?_
  refine sq rfl rfl hn rfl (zF rfl rfl) ?_
  refine zE (zA (zC (zB ?_)))
  refine sq rfl rfl hn rfl (zG rfl rfl) ?_
  refine sq rfl rfl hn rfl (yG rfl rfl rfl) ?_
  refine sq rfl rfl hn rfl (zF rfl rfl) ?_
  refine zE (zA (zO ?_))
  refine zp (zt (.inl rfl) hl rfl (.tmp rfl)) ?_
  rw [show (xE.1.2 == 0) = heldB l.reg N hs from by rw [Bool.eq_iff_iff, ← holds_held v vx hN9 hl5, beq_iff_eq]; exact (expl_err vx xE).1]
theorem zDv (l : Ldg) (N : Nat) (hd5 : l.day = (N : Int)) (v : Valid l.reg) (hg0 : l.reg.sights = []) (hN9 : N ≤ 9) {ι : Type} (lq : Nat) (R : ι → Res) (A : Nat → ι → Prop) (B : ι → Prop) (xs : List (List D)) (hy : ∀ j x i, xs[j]? = some x → A j i → YieldE Tryz.prog lq x R i (A (j + 1)) B) (b2 b3 k : Nat) (ih : ∀ k1, k = k1 + 1 → PutsOK l N lq R A B xs b2 b3 k1) (hs : List Int) (j : Nat) (i0 : ι) (hk5 : hs.length + k = l.reg.start.length) (hb5 : ∀ x ∈ hs, 0 ≤ x ∧ x ≤ l.reg.houses - 1) (hx5 : SegX xs j (putN l N k hs)) (hA0 : A j i0) : EffAt Tryz.prog 139 (.d (ints hs) :: putCa l b2 b3) (putRs l lq R b2 b3 i0) (X := PutX A B j (putN l N k hs).length) (fun x => .d (.bool x.1.1)) (fun x => putRs l lq R b2 b3 x.1.2) := by
 have hs4 := v.s4; have hh4 := v.h4
 have hl5 : hs.length ≤ l.reg.start.length := by omega
 have vx := see_valid v hg0 hl5 hb5 hN9
 refine EffAt.of_awp Tryz.func139 rfl (by kernel_rfl) rfl fun Γ hn => zCJ.1 ?_
 refine zz (zj ?_)
 refine sqI rfl rfl hn rfl (zF rfl rfl) rfl ?_
 refine zu (zi (zz (zz (zj ?_))))
 refine sqI rfl rfl hn rfl (ze rfl rfl Tryz.underlying50 rfl sz50 rfl rfl seesF0) rfl ?_
 refine sqI rfl rfl hn rfl (zG rfl rfl) rfl ?_
 refine stepWI ((s_call [] (fun _ => holds_ok l N hs hd5 v vx hN9 hl5) rfl (zI rfl) rfl (nb hn rfl) (fun _ => trivial) rfl rfl (.refl _)).i rfl) fun _ => ?_
 refine sqI rfl rfl hn rfl (yF rfl rfl) rfl ?_
 refine zu (zi ?_)
 refine yg rfl (fun hb0 => ?_) (fun hb0 => ?_)
 ·
  have hhd : heldB l.reg N hs = false := notT hb0
  have hpz := put_not (l := l) (N := N) (k := k) hhd
  refine zz (zj ?_)
  refine sqI rfl rfl hn rfl (zF rfl rfl) rfl ?_
  refine zu (zi (zAw (zL ?_)))
  exact ret_E (.inl rfl) ⟨(true, i0), fun _ => by rw [hpz]; exact hA0, fun h => by cases h⟩ (yB rfl (.tmp rfl)) ⟨rfl, rfl, rfl, trivial⟩
 ·
  have hhd : heldB l.reg N hs = true := notF hb0
  refine yi (zi (zz (zj ?_)))
  refine sqI rfl rfl hn rfl (zG rfl rfl) rfl ?_
  refine sqI rfl rfl hn rfl (z7 rfl rfl Tryz.underlying22) rfl ?_
  refine sqI rfl rfl hn rfl (zF rfl rfl) rfl ?_
  refine zu (zi (zz (zz (zj ?_))))
  refine sqI rfl rfl hn rfl (zG rfl rfl) rfl ?_
  refine sqI rfl rfl hn rfl (zN rfl rfl Tryz.underlying50 rfl sz44 rfl) rfl ?_
  refine sqI rfl rfl hn rfl (zN rfl rfl Tryz.underlying44 rfl sz22 rfl) rfl ?_
  refine sqI rfl rfl hn rfl (zR rfl rfl Tryz.underlying22 rfl seesF0) rfl ?_
  refine sqI rfl rfl hn rfl (z7 rfl rfl Tryz.underlying22) rfl ?_
  refine sqI rfl rfl hn rfl (yG rfl rfl rfl) rfl ?_
  refine zu (zi ?_)
  refine yg rfl (fun hb1 => ?_) (fun hb1 => ?_)
  ·
   obtain rfl : k = 0 := by simp only [List.length_map, beq_iff_eq] at hb1; omega
   have hpz := put_zero (l := l) (N := N) hhd
   rw [hpz] at hx5
   refine zz (zj ?_)
   refine sqI rfl rfl hn rfl (zQ rfl rfl (id := 1031) rfl Tryz.underlying199 rfl rfl sees0) rfl ?_
   refine sqI rfl rfl hn rfl (zG rfl rfl) rfl ?_
   refine stepWI (s_yield [] (i0) (fun _ => hy j [ints hs] i0 (seg_get hx5) hA0) rfl (zI rfl) rfl (nb hn rfl) (fun _ => trivial) rfl rfl (.refl _) rfl (fun _ _ => trivial)) fun ⟨⟨by1, i1⟩, hp1, hp0⟩ => ?_
   refine sqI rfl rfl hn rfl (zF rfl rfl) rfl ?_
   refine zu (zi (zAw (zL ?_)))
   exact ret_E (.inl rfl) ⟨(by1, i1), fun h => by rw [hpz]; exact (hp1 rfl).1 h, fun h => (hp1 rfl).2 h⟩ (yB rfl (.tmp rfl)) ⟨rfl, rfl, rfl, trivial⟩
  ·
   obtain ⟨k1, rfl⟩ : ∃ k1, k = k1 + 1 := ⟨k - 1, by simp only [List.length_map, beq_eq_false_iff_ne, ne_eq] at hb1; omega⟩
   have hpz := put_step (l := l) (N := N) (k := k1) hhd
   rw [hpz] at hx5
   rw [show (hs.map intE).length = hs.length from List.length_map ..]
   have hcb := zEI (N := N) (s := hs.length) hh4
   refine yi (zi (zz (zj ?_)))
   refine sqI rfl rfl hn rfl (zN rfl rfl Tryz.underlying50 rfl sz44 rfl) rfl ?_
   refine sqI rfl rfl hn rfl (ze rfl rfl Tryz.underlying44 rfl sz44 rfl rfl seesF0) rfl ?_
   refine sqI rfl rfl hn rfl (zG rfl rfl) rfl ?_
   refine sqI rfl rfl hn rfl (zN rfl rfl Tryz.underlying50 rfl sz3 rfl) rfl ?_
   refine sqI rfl rfl hn rfl (zR rfl rfl Tryz.underlying3 rfl seesF0) rfl ?_
   refine stepWI ((s_callE (Holders_eff l.reg ((hs.length : Nat) : Int) l.day) rfl rfl rfl (nb hn rfl) (.d rfl) rfl (.refl _) trivial (fun _ => rfl) (fun _ _ => trivial)).i rfl) fun xH => ?_
   obtain ⟨⟨oH, eH⟩, hH⟩ := xH
   rw [hd5] at hH
   have hev := (ask_ev v (by simp [sheetB]; omega) hN9 hH).1
   have hce : holdR l.reg ((hs.length : Nat) : Int) oH = candL l.reg N hs.length := holders_eq v hN9 (by omega) hev
   dsimp only
   rw [hce]
   refine sqI rfl rfl hn rfl (zG rfl rfl) rfl ?_
   refine sqI rfl rfl hn rfl (zT rfl rfl rfl) rfl ?_
   refine sqI rfl rfl hn rfl (zT rfl rfl rfl) rfl ?_
   refine sqI rfl rfl hn rfl (zF rfl rfl) rfl ?_
   refine sqI rfl rfl hn rfl (zF rfl rfl) rfl ?_
   refine zu (zi (zz (zz (zj ?_))))
   refine sqI rfl rfl hn rfl (zG rfl rfl) rfl ?_
   refine sqI rfl rfl hn rfl (z7 rfl rfl Tryz.underlying22) rfl ?_
   refine sqI rfl rfl hn rfl (zG rfl rfl) rfl ?_
   refine zu (zi (yv ?_))
   refine zBl (ι := {x : Nat × ι // x.1 ≤ (candL l.reg N hs.length).length ∧ A (j + (firsts l N k1 hs x.1).length) x.2}) (fun x => (37, true, .d (.int .i64 (x.1.1 : Nat))) :: anys [38, 39, 40, 10, 41, 42, 43, 44, 45, 46, 47, 48, 49]) (fun x => (7000, R x.1.2) :: (1031, .box b2 199 [.val (.func (.yield lq) #[] #[])]) :: (1032, .box b3 199 [.fn (.func 139) [] (putCa l b2 b3)]) :: gones [1021]) (fun x => (candL l.reg N hs.length).length - x.1.1) ⟨(0, i0), Nat.zero_le _, hA0⟩ ⟨.inl rfl, zJ _⟩ ⟨.inl rfl, .inl rfl, .inl rfl, zX _⟩ ?_
   rintro ⟨⟨c, i1⟩, hcl, hAc⟩
   dsimp only
   dsimp only at hcl hAc
   refine zz (zj ?_)
   refine sqI rfl rfl hn rfl (yJ rfl rfl rfl) rfl ?_
   refine zu (zi (zz ?_))
   refine yg rfl (fun hb2 => ?_) (fun hb2 => ?_)
   ·
    have hcl2 : c < (candL l.reg N hs.length).length := by simpa using hb2
    obtain ⟨h, hch⟩ := z2 hcl2
    have hsg := first_seg hx5 hch
    have hhb := hcb.2 h (List.mem_of_getElem? hch)
    refine yi (zi (zz (yv (zz (zj ?_)))))
    refine sqI rfl rfl hn rfl (q_index (i := c) rfl rfl rfl Tryz.underlying22 sz3 rfl (mget hch)) rfl ?_
    refine sqI rfl rfl hn rfl (zR rfl rfl Tryz.underlying3 rfl seesF0) rfl ?_
    refine sqI rfl rfl hn rfl (zF rfl rfl) rfl ?_
    refine zu (zi (zz ?_))
    refine zBq (e := .normal) (ι := PutX A B (j + (firsts l N k1 hs c).length) (putN l N k1 (hs ++ [h])).length) (fun x => (48, true, .d (.bool (!x.1.1))) :: anys [41, 42, 43, 44, 45, 46, 47]) (fun x => (7000, R x.1.2) :: (1031, .box b2 199 [.val (.func (.yield lq) #[] #[])]) :: (1032, .box b3 199 [.fn (.func 139) [] (putCa l b2 b3)]) :: gones [1021]) (fun hJ3 => ?_) ?_
    ·
     refine zDy (W := fun b => True) fmo ?_
     refine d1qI (i := 1) rfl (by kernel_rfl) rfl (fun _ _ _ _ h => h) rfl rfl hn rfl (zG rfl rfl) ?_
     refine d1qI (i := 3) rfl (by kernel_rfl) rfl (fun _ _ _ _ h => h) rfl rfl hn rfl (zG rfl rfl) ?_
     refine zo ?_
     refine kx 0 [2, 4] (by kernel_rfl) ⟨?_, ?_, ?_, trivial⟩
     ·
      refine brI rfl ((yA _ [] (zI rfl) rfl (nb hn rfl) (fun _ => trivial) (fun _ => zQ rfl rfl (id := 1032) rfl Tryz.underlying199 rfl rfl sees0)).i rfl) fun _ => ?_
      refine zq (zo ?_)
      refine kx 2 [4] (by kernel_rfl) ⟨?_, ?_, trivial⟩
      ·
       refine brI rfl ((s_callE (yP hs (by omega)) rfl rfl rfl (nb hn rfl) (.d rfl) rfl (.refl _) trivial (fun _ => rfl) (fun _ _ => trivial)).i rfl) fun vc => ?_
       refine zq (zo ?_)
       refine yH (i := 4) (by kernel_rfl) rfl ((zP rfl rfl rfl (nb hn rfl) Tryz.underlying22 sz3 zr3 rfl rfl rfl (show _ = [.d (.int .i64 0)] from by kernel_rfl) (by kernel_rfl) rfl rfl rfl rfl rfl).i rfl) fun _ => ?_
       refine zq (zo ?_)
       refine yH (i := 5) (by kernel_rfl) rfl ((s_append (id := 1021) rfl rfl rfl (nb hn rfl) elt22 trivial rfl rfl rfl (by simp [chunk]; omega) (by simp [chunk]; omega) (fun b hb => trivial)).i rfl) fun v46 => ?_
       refine zq (zo ?_)
       have hcall := ih k1 rfl (hs ++ [h]) (j + (firsts l N k1 hs c).length) i1 (by rw [List.length_append, List.length_singleton]; omega) (fun x hx => by rcases List.mem_append.1 hx with hx | hx; exact hb5 x hx; (rw [List.mem_singleton] at hx; subst hx; exact hhb)) hsg hAc
       rw [yf] at hcall
       refine zAO (g_row (t := 46) (id := 1021) rfl rfl) ?_
       refine yH (i := 6) (by kernel_rfl) rfl ((s_callE (hcall) rfl rfl rfl (nb hn rfl) (.t rfl) rfl (.refl _) ⟨rfl, rfl, rfl, trivial⟩ (fun _ => rfl) (fun _ _ => trivial)).i rfl) fun ⟨⟨by2, i2⟩, hq1, hq0⟩ => ?_
       refine zq ?_
       refine d1qI (i := 7) rfl (by kernel_rfl) rfl (fun _ _ _ _ h => h) rfl rfl hn rfl (yF rfl rfl) ?_
       refine zo ?_
       refine yz (by kernel_rfl) ?_
       exact aend_join_on hJ3 ⟨(by2, i2), hq1, hq0⟩ ⟨.inl rfl, zJ _⟩ ⟨.inl rfl, .inl rfl, .inl rfl, zX _⟩ (by repeat (first | exact kr _ | refine kc rfl ?_)) (by repeat (first | exact kr _ | refine kc rfl ?_))
      ·
       refine brI rfl ((zP rfl rfl rfl (nb hn rfl) Tryz.underlying22 sz3 zr3 rfl rfl rfl (show _ = [.d (.int .i64 0)] from by kernel_rfl) (by kernel_rfl) rfl rfl rfl rfl rfl).i rfl) fun _ => ?_
       refine zq (zo ?_)
       refine yH (i := 2) (by kernel_rfl) rfl ((s_callE (yP hs (by omega)) rfl rfl rfl (nb hn rfl) (.d rfl) rfl (.refl _) trivial (fun _ => rfl) (fun _ _ => trivial)).i rfl) fun vc => ?_
       refine zq (zo ?_)
       refine yH (i := 5) (by kernel_rfl) rfl ((s_append (id := 1021) rfl rfl rfl (nb hn rfl) elt22 trivial rfl rfl rfl (by simp [chunk]; omega) (by simp [chunk]; omega) (fun b hb => trivial)).i rfl) fun v46 => ?_
       refine zq (zo ?_)
       have hcall := ih k1 rfl (hs ++ [h]) (j + (firsts l N k1 hs c).length) i1 (by rw [List.length_append, List.length_singleton]; omega) (fun x hx => by rcases List.mem_append.1 hx with hx | hx; exact hb5 x hx; (rw [List.mem_singleton] at hx; subst hx; exact hhb)) hsg hAc
       rw [yf] at hcall
       refine zAO (g_row (t := 46) (id := 1021) rfl rfl) ?_
       refine yH (i := 6) (by kernel_rfl) rfl ((s_callE (hcall) rfl rfl rfl (nb hn rfl) (.t rfl) rfl (.refl _) ⟨rfl, rfl, rfl, trivial⟩ (fun _ => rfl) (fun _ _ => trivial)).i rfl) fun ⟨⟨by2, i2⟩, hq1, hq0⟩ => ?_
       refine zq ?_
       refine d1qI (i := 7) rfl (by kernel_rfl) rfl (fun _ _ _ _ h => h) rfl rfl hn rfl (yF rfl rfl) ?_
       refine zo ?_
       refine yz (by kernel_rfl) ?_
       exact aend_join_on hJ3 ⟨(by2, i2), hq1, hq0⟩ ⟨.inl rfl, zJ _⟩ ⟨.inl rfl, .inl rfl, .inl rfl, zX _⟩ (by repeat (first | exact kr _ | refine kc rfl ?_)) (by repeat (first | exact kr _ | refine kc rfl ?_))
     ·
      refine brI rfl ((s_callE (yP hs (by omega)) rfl rfl rfl (nb hn rfl) (.d rfl) rfl (.refl _) trivial (fun _ => rfl) (fun _ _ => trivial)).i rfl) fun vc => ?_
      refine zq (zo ?_)
      refine kx 0 [4] (by kernel_rfl) ⟨?_, ?_, trivial⟩
      ·
       refine brI rfl ((yA _ [] (zI rfl) rfl (nb hn rfl) (fun _ => trivial) (fun _ => zQ rfl rfl (id := 1032) rfl Tryz.underlying199 rfl rfl sees0)).i rfl) fun _ => ?_
       refine zq (zo ?_)
       refine yH (i := 4) (by kernel_rfl) rfl ((zP rfl rfl rfl (nb hn rfl) Tryz.underlying22 sz3 zr3 rfl rfl rfl (show _ = [.d (.int .i64 0)] from by kernel_rfl) (by kernel_rfl) rfl rfl rfl rfl rfl).i rfl) fun _ => ?_
       refine zq (zo ?_)
       refine yH (i := 5) (by kernel_rfl) rfl ((s_append (id := 1021) rfl rfl rfl (nb hn rfl) elt22 trivial rfl rfl rfl (by simp [chunk]; omega) (by simp [chunk]; omega) (fun b hb => trivial)).i rfl) fun v46 => ?_
       refine zq (zo ?_)
       have hcall := ih k1 rfl (hs ++ [h]) (j + (firsts l N k1 hs c).length) i1 (by rw [List.length_append, List.length_singleton]; omega) (fun x hx => by rcases List.mem_append.1 hx with hx | hx; exact hb5 x hx; (rw [List.mem_singleton] at hx; subst hx; exact hhb)) hsg hAc
       rw [yf] at hcall
       refine zAO (g_row (t := 46) (id := 1021) rfl rfl) ?_
       refine yH (i := 6) (by kernel_rfl) rfl ((s_callE (hcall) rfl rfl rfl (nb hn rfl) (.t rfl) rfl (.refl _) ⟨rfl, rfl, rfl, trivial⟩ (fun _ => rfl) (fun _ _ => trivial)).i rfl) fun ⟨⟨by2, i2⟩, hq1, hq0⟩ => ?_
       refine zq ?_
       refine d1qI (i := 7) rfl (by kernel_rfl) rfl (fun _ _ _ _ h => h) rfl rfl hn rfl (yF rfl rfl) ?_
       refine zo ?_
       refine yz (by kernel_rfl) ?_
       exact aend_join_on hJ3 ⟨(by2, i2), hq1, hq0⟩ ⟨.inl rfl, zJ _⟩ ⟨.inl rfl, .inl rfl, .inl rfl, zX _⟩ (by repeat (first | exact kr _ | refine kc rfl ?_)) (by repeat (first | exact kr _ | refine kc rfl ?_))
      ·
       refine brI rfl ((zP rfl rfl rfl (nb hn rfl) Tryz.underlying22 sz3 zr3 rfl rfl rfl (show _ = [.d (.int .i64 0)] from by kernel_rfl) (by kernel_rfl) rfl rfl rfl rfl rfl).i rfl) fun _ => ?_
       refine zq (zo ?_)
       refine kx 0 [5] (by kernel_rfl) ⟨?_, ?_, trivial⟩
       ·
        refine brI rfl ((yA _ [] (zI rfl) rfl (nb hn rfl) (fun _ => trivial) (fun _ => zQ rfl rfl (id := 1032) rfl Tryz.underlying199 rfl rfl sees0)).i rfl) fun _ => ?_
        refine zq (zo ?_)
        refine yH (i := 5) (by kernel_rfl) rfl ((s_append (id := 1021) rfl rfl rfl (nb hn rfl) elt22 trivial rfl rfl rfl (by simp [chunk]; omega) (by simp [chunk]; omega) (fun b hb => trivial)).i rfl) fun v46 => ?_
        refine zq (zo ?_)
        have hcall := ih k1 rfl (hs ++ [h]) (j + (firsts l N k1 hs c).length) i1 (by rw [List.length_append, List.length_singleton]; omega) (fun x hx => by rcases List.mem_append.1 hx with hx | hx; exact hb5 x hx; (rw [List.mem_singleton] at hx; subst hx; exact hhb)) hsg hAc
        rw [yf] at hcall
        refine zAO (g_row (t := 46) (id := 1021) rfl rfl) ?_
        refine yH (i := 6) (by kernel_rfl) rfl ((s_callE (hcall) rfl rfl rfl (nb hn rfl) (.t rfl) rfl (.refl _) ⟨rfl, rfl, rfl, trivial⟩ (fun _ => rfl) (fun _ _ => trivial)).i rfl) fun ⟨⟨by2, i2⟩, hq1, hq0⟩ => ?_
        refine zq ?_
        refine d1qI (i := 7) rfl (by kernel_rfl) rfl (fun _ _ _ _ h => h) rfl rfl hn rfl (yF rfl rfl) ?_
        refine zo ?_
        refine yz (by kernel_rfl) ?_
        exact aend_join_on hJ3 ⟨(by2, i2), hq1, hq0⟩ ⟨.inl rfl, zJ _⟩ ⟨.inl rfl, .inl rfl, .inl rfl, zX _⟩ (by repeat (first | exact kr _ | refine kc rfl ?_)) (by repeat (first | exact kr _ | refine kc rfl ?_))
       ·
        refine brI rfl ((s_append (id := 1021) rfl rfl rfl (nb hn rfl) elt22 trivial rfl rfl rfl (by simp [chunk]; omega) (by simp [chunk]; omega) (fun b hb => trivial)).i rfl) fun v46 => ?_
        refine zq (zo ?_)
        refine yH (i := 0) (by kernel_rfl) rfl ((yA _ [] (zI rfl) rfl (nb hn rfl) (fun _ => trivial) (fun _ => zQ rfl rfl (id := 1032) rfl Tryz.underlying199 rfl rfl sees0)).i rfl) fun _ => ?_
        refine zq (zo ?_)
        have hcall := ih k1 rfl (hs ++ [h]) (j + (firsts l N k1 hs c).length) i1 (by rw [List.length_append, List.length_singleton]; omega) (fun x hx => by rcases List.mem_append.1 hx with hx | hx; exact hb5 x hx; (rw [List.mem_singleton] at hx; subst hx; exact hhb)) hsg hAc
        rw [yf] at hcall
        refine zAO (g_row (t := 46) (id := 1021) rfl rfl) ?_
        refine yH (i := 6) (by kernel_rfl) rfl ((s_callE (hcall) rfl rfl rfl (nb hn rfl) (.t rfl) rfl (.refl _) ⟨rfl, rfl, rfl, trivial⟩ (fun _ => rfl) (fun _ _ => trivial)).i rfl) fun ⟨⟨by2, i2⟩, hq1, hq0⟩ => ?_
        refine zq ?_
        refine d1qI (i := 7) rfl (by kernel_rfl) rfl (fun _ _ _ _ h => h) rfl rfl hn rfl (yF rfl rfl) ?_
        refine zo ?_
        refine yz (by kernel_rfl) ?_
        exact aend_join_on hJ3 ⟨(by2, i2), hq1, hq0⟩ ⟨.inl rfl, zJ _⟩ ⟨.inl rfl, .inl rfl, .inl rfl, zX _⟩ (by repeat (first | exact kr _ | refine kc rfl ?_)) (by repeat (first | exact kr _ | refine kc rfl ?_))
     ·
      refine brI rfl ((zP rfl rfl rfl (nb hn rfl) Tryz.underlying22 sz3 zr3 rfl rfl rfl (show _ = [.d (.int .i64 0)] from by kernel_rfl) (by kernel_rfl) rfl rfl rfl rfl rfl).i rfl) fun _ => ?_
      refine zq (zo ?_)
      refine kx 0 [2] (by kernel_rfl) ⟨?_, ?_, trivial⟩
      ·
       refine brI rfl ((yA _ [] (zI rfl) rfl (nb hn rfl) (fun _ => trivial) (fun _ => zQ rfl rfl (id := 1032) rfl Tryz.underlying199 rfl rfl sees0)).i rfl) fun _ => ?_
       refine zq (zo ?_)
       refine yH (i := 2) (by kernel_rfl) rfl ((s_callE (yP hs (by omega)) rfl rfl rfl (nb hn rfl) (.d rfl) rfl (.refl _) trivial (fun _ => rfl) (fun _ _ => trivial)).i rfl) fun vc => ?_
       refine zq (zo ?_)
       refine yH (i := 5) (by kernel_rfl) rfl ((s_append (id := 1021) rfl rfl rfl (nb hn rfl) elt22 trivial rfl rfl rfl (by simp [chunk]; omega) (by simp [chunk]; omega) (fun b hb => trivial)).i rfl) fun v46 => ?_
       refine zq (zo ?_)
       have hcall := ih k1 rfl (hs ++ [h]) (j + (firsts l N k1 hs c).length) i1 (by rw [List.length_append, List.length_singleton]; omega) (fun x hx => by rcases List.mem_append.1 hx with hx | hx; exact hb5 x hx; (rw [List.mem_singleton] at hx; subst hx; exact hhb)) hsg hAc
       rw [yf] at hcall
       refine zAO (g_row (t := 46) (id := 1021) rfl rfl) ?_
       refine yH (i := 6) (by kernel_rfl) rfl ((s_callE (hcall) rfl rfl rfl (nb hn rfl) (.t rfl) rfl (.refl _) ⟨rfl, rfl, rfl, trivial⟩ (fun _ => rfl) (fun _ _ => trivial)).i rfl) fun ⟨⟨by2, i2⟩, hq1, hq0⟩ => ?_
       refine zq ?_
       refine d1qI (i := 7) rfl (by kernel_rfl) rfl (fun _ _ _ _ h => h) rfl rfl hn rfl (yF rfl rfl) ?_
       refine zo ?_
       refine yz (by kernel_rfl) ?_
       exact aend_join_on hJ3 ⟨(by2, i2), hq1, hq0⟩ ⟨.inl rfl, zJ _⟩ ⟨.inl rfl, .inl rfl, .inl rfl, zX _⟩ (by repeat (first | exact kr _ | refine kc rfl ?_)) (by repeat (first | exact kr _ | refine kc rfl ?_))
      ·
       refine brI rfl ((s_callE (yP hs (by omega)) rfl rfl rfl (nb hn rfl) (.d rfl) rfl (.refl _) trivial (fun _ => rfl) (fun _ _ => trivial)).i rfl) fun vc => ?_
       refine zq (zo ?_)
       refine kx 0 [5] (by kernel_rfl) ⟨?_, ?_, trivial⟩
       ·
        refine brI rfl ((yA _ [] (zI rfl) rfl (nb hn rfl) (fun _ => trivial) (fun _ => zQ rfl rfl (id := 1032) rfl Tryz.underlying199 rfl rfl sees0)).i rfl) fun _ => ?_
        refine zq (zo ?_)
        refine yH (i := 5) (by kernel_rfl) rfl ((s_append (id := 1021) rfl rfl rfl (nb hn rfl) elt22 trivial rfl rfl rfl (by simp [chunk]; omega) (by simp [chunk]; omega) (fun b hb => trivial)).i rfl) fun v46 => ?_
        refine zq (zo ?_)
        have hcall := ih k1 rfl (hs ++ [h]) (j + (firsts l N k1 hs c).length) i1 (by rw [List.length_append, List.length_singleton]; omega) (fun x hx => by rcases List.mem_append.1 hx with hx | hx; exact hb5 x hx; (rw [List.mem_singleton] at hx; subst hx; exact hhb)) hsg hAc
        rw [yf] at hcall
        refine zAO (g_row (t := 46) (id := 1021) rfl rfl) ?_
        refine yH (i := 6) (by kernel_rfl) rfl ((s_callE (hcall) rfl rfl rfl (nb hn rfl) (.t rfl) rfl (.refl _) ⟨rfl, rfl, rfl, trivial⟩ (fun _ => rfl) (fun _ _ => trivial)).i rfl) fun ⟨⟨by2, i2⟩, hq1, hq0⟩ => ?_
        refine zq ?_
        refine d1qI (i := 7) rfl (by kernel_rfl) rfl (fun _ _ _ _ h => h) rfl rfl hn rfl (yF rfl rfl) ?_
        refine zo ?_
        refine yz (by kernel_rfl) ?_
        exact aend_join_on hJ3 ⟨(by2, i2), hq1, hq0⟩ ⟨.inl rfl, zJ _⟩ ⟨.inl rfl, .inl rfl, .inl rfl, zX _⟩ (by repeat (first | exact kr _ | refine kc rfl ?_)) (by repeat (first | exact kr _ | refine kc rfl ?_))
       ·
        refine brI rfl ((s_append (id := 1021) rfl rfl rfl (nb hn rfl) elt22 trivial rfl rfl rfl (by simp [chunk]; omega) (by simp [chunk]; omega) (fun b hb => trivial)).i rfl) fun v46 => ?_
        refine zq (zo ?_)
        refine yH (i := 0) (by kernel_rfl) rfl ((yA _ [] (zI rfl) rfl (nb hn rfl) (fun _ => trivial) (fun _ => zQ rfl rfl (id := 1032) rfl Tryz.underlying199 rfl rfl sees0)).i rfl) fun _ => ?_
        refine zq (zo ?_)
        have hcall := ih k1 rfl (hs ++ [h]) (j + (firsts l N k1 hs c).length) i1 (by rw [List.length_append, List.length_singleton]; omega) (fun x hx => by rcases List.mem_append.1 hx with hx | hx; exact hb5 x hx; (rw [List.mem_singleton] at hx; subst hx; exact hhb)) hsg hAc
        rw [yf] at hcall
        refine zAO (g_row (t := 46) (id := 1021) rfl rfl) ?_
        refine yH (i := 6) (by kernel_rfl) rfl ((s_callE (hcall) rfl rfl rfl (nb hn rfl) (.t rfl) rfl (.refl _) ⟨rfl, rfl, rfl, trivial⟩ (fun _ => rfl) (fun _ _ => trivial)).i rfl) fun ⟨⟨by2, i2⟩, hq1, hq0⟩ => ?_
        refine zq ?_
        refine d1qI (i := 7) rfl (by kernel_rfl) rfl (fun _ _ _ _ h => h) rfl rfl hn rfl (yF rfl rfl) ?_
        refine zo ?_
        refine yz (by kernel_rfl) ?_
        exact aend_join_on hJ3 ⟨(by2, i2), hq1, hq0⟩ ⟨.inl rfl, zJ _⟩ ⟨.inl rfl, .inl rfl, .inl rfl, zX _⟩ (by repeat (first | exact kr _ | refine kc rfl ?_)) (by repeat (first | exact kr _ | refine kc rfl ?_))
    ·
     rintro ⟨⟨by2, i2⟩, hq1, hq0⟩
     dsimp only
     refine zi ?_
     refine yg rfl (fun hb4 => ?_) (fun hb4 => ?_)
     ·
      have hb2f : by2 = false := notT hb4
      refine zz (zj ?_)
      refine sqI rfl rfl hn rfl (zF rfl rfl) rfl ?_
      refine zu (zi (zAw (zf (zL (zL (zf (zL ?_)))))))
      exact ret_E (.inl rfl) ⟨(false, i2), fun h => (by cases h), fun _ => hq0 hb2f⟩ (yB rfl (.tmp rfl)) ⟨rfl, rfl, rfl, trivial⟩
     ·
      have hb3t := hb4
      refine yi (za (zi (zj ?_)))
      refine sqI rfl rfl hn rfl (z6 rfl rfl rfl (r := ((c + 1 : Nat) : Int)) (i64w (by omega) (by omega))) rfl ?_
      refine sqI rfl rfl hn rfl (zG rfl rfl) rfl ?_
      refine zu ?_
      exact zZ ⟨(c + 1, i2), by omega, by dsimp only; rw [zCa hch, List.length_append, ← Nat.add_assoc]; exact (hq1 (notF hb3t))⟩ ⟨.inl rfl, zJ _⟩ ⟨.inl rfl, .inl rfl, .inl rfl, zX _⟩ (by simp only; omega) (by repeat (first | exact kr _ | refine kc rfl ?_)) (by repeat (first | exact kr _ | refine kc rfl ?_))
   ·
    obtain rfl : c = (candL l.reg N hs.length).length := by simp at hb2; omega
    refine zAI (zK (zK (zW (zi (zz (zj ?_))))))
    refine sqI rfl rfl hn rfl (zF rfl rfl) rfl ?_
    refine zu (zi (zAw ?_))
    exact ret_E (.inl rfl) ⟨(true, i1), fun _ => by rw [hpz]; exact hAc, fun h => by cases h⟩ (yB rfl (.tmp rfl)) ⟨rfl, rfl, rfl, trivial⟩
end Go.Proofs.YtaokpncjemkhcaaGreat
