/-
  Plain laws of layer 5: all truths, and what is asked of them. No condition: no statement of the seat is proved here.
-/
import Derived.Test.YtnbmmopjkkofoaaP2
namespace Go.Proofs.Ytnbmmopjkkofoaa
set_option linter.all false

theorem nth_surj : ∀ {es : List Ent5} {ts : List Int}, datedF es ts = true → ∃ n, n < manyN es ∧ nthL es n = ts
  | [], [], _ => ⟨0, by simp [manyN], rfl⟩
  | [], _ :: _, h => by simp [datedF] at h
  | _ :: _, [], h => by simp [datedF] at h
  | e :: es, t :: ts, h => by
    simp only [datedF, Bool.and_eq_true, decide_eq_true_eq] at h
    obtain ⟨n, h1, h2⟩ := nth_surj h.2
    have hsp : ((span e : Nat) : Int) = e.hi - e.lo + 1 := by unfold span; omega
    have hk : (t - e.lo).toNat < span e := by omega
    have hpos : 0 < span e := by omega
    refine ⟨(t - e.lo).toNat + span e * n, ?_, ?_⟩
    · have : span e * (n + 1) ≤ span e * manyN es := Nat.mul_le_mul_left _ h1
      rw [Nat.mul_add, Nat.mul_one] at this
      simp only [manyN]
      omega
    · simp only [nthL]
      rw [Nat.add_mul_mod_self_left, Nat.mod_eq_of_lt hk, Nat.add_mul_div_left _ _ hpos, Nat.div_eq_of_lt hk, Nat.zero_add, h2]
      congr 1
      omega
theorem truth_iff {r : Reg} (v : Valid r) {t : List Int} : isTruthB r t = true ↔ ∃ ds, Truth r t ds := by
  unfold isTruthB
  constructor
  · intro h
    simp only [Bool.and_eq_true] at h
    obtain ⟨hd, hp, hs⟩ := h
    rcases play_ref v hd with ⟨_, k2⟩ | ⟨ds, k1, k2, k3, k4⟩
    · rw [k2] at hp; cases hp
    · refine ⟨ds, hd, k1, ?_⟩
      have key : ∀ (n : Nat) (es : List Nat), es = ds.drop n → seenAll r n es = true := by
        intro n es
        induction es generalizing n with
        | nil => intro _; rfl
        | cons d es ih =>
          intro he
          have hdn : ds[n]? = some d := by
            have : (ds.drop n)[0]? = some d := by rw [← he]; rfl
            simpa using this
          have hlt := (List.getElem?_eq_some_iff.1 hdn).1
          have htl : es = ds.drop (n + 1) := by
            have : (ds.drop n).drop 1 = es := by rw [← he]; rfl
            rw [List.drop_drop] at this
            exact this.symm
          simp only [seenAll, ih (n + 1) htl, Bool.and_true, List.all_eq_true]
          intro s hsm
          have hsi := v.si s hsm
          have hs4 := v.s4
          have h1 := List.all_eq_true.1 hs s hsm
          simp only [sightOK, beq_iff_eq] at h1
          simp only [seenB, Bool.or_eq_true, bne_iff_ne, ne_eq, beq_iff_eq]
          by_cases hday : s.day = (n : Int)
          · right
            have h2 := (k4 n (by omega)).1 s.sheet.toNat (by omega)
            rw [show s.day.toNat = n by omega, h2] at h1
            rw [show ds.getD n 0 = d by simp [List.getD_eq_getElem?_getD, hdn]] at h1
            exact h1
          · exact .inl hday
      exact key 0 ds rfl
  · rintro ⟨ds, T⟩
    rcases play_ref v T.dated with ⟨k1, _⟩ | ⟨ds', k1, k2, k3, k4⟩
    · rw [T.play] at k1; cases k1
    · rw [T.play] at k1
      cases k1
      simp only [Bool.and_eq_true]
      refine ⟨T.dated, k3, List.all_eq_true.2 fun s hsm => ?_⟩
      have hsi := v.si s hsm
      have hs4 := v.s4
      have hlt : s.day.toNat < 10 := by omega
      have hg : ds[s.day.toNat]? = some (ds.getD s.day.toNat 0) := by
        rw [List.getD_eq_getElem?_getD, List.getElem?_eq_getElem (by omega)]; rfl
      have h1 := seenAll_get T.seen hg
      rw [Nat.zero_add] at h1
      have h2 := List.all_eq_true.1 h1 s hsm
      simp only [seenB, Bool.or_eq_true, bne_iff_ne, ne_eq, beq_iff_eq] at h2
      simp only [sightOK, beq_iff_eq]
      rw [(k4 _ hlt).1 s.sheet.toNat (by omega)]
      exact h2.resolve_left (by omega)
theorem truths_mem {r : Reg} (v : Valid r) {t : List Int} : t ∈ truths r ↔ ∃ ds, Truth r t ds := by
  rw [← truth_iff v]
  unfold truths truthsF
  rw [List.mem_filter]
  constructor
  · exact fun h => h.2
  · intro h
    refine ⟨?_, h⟩
    unfold isTruthB at h
    simp only [Bool.and_eq_true] at h
    obtain ⟨n, h1, h2⟩ := nth_surj h.1
    exact List.mem_map.2 ⟨n, List.mem_range.2 h1, h2⟩
theorem goes_all_iff {r : Reg} (v : Valid r) : goesB r 0 0 0 = true ↔ allDays r ≠ [] := by
  rw [goes_truth v]
  unfold allDays
  constructor
  · rintro ⟨t, ds, T⟩ h
    have := (truths_mem v).2 ⟨ds, T⟩
    rw [List.map_eq_nil_iff] at h
    rw [h] at this
    cases this
  · intro h
    cases hq : truths r with
    | nil => rw [hq] at h; exact (h rfl).elim
    | cons t l =>
      obtain ⟨ds, T⟩ := (truths_mem v (t := t)).1 (by rw [hq]; exact List.mem_cons_self)
      exact ⟨t, ds, T⟩
/-- What has happened at the end of a day, and the reference's record of it. -/
def Pair (r : Reg) (N : Nat) (m : Nat) (o : List Int) : Prop :=
  (∀ s, s < 4 → houseAt o N s = (placesA r m).getD s 0) ∧ (∀ a b : Nat, a < 4 → b < 4 → openAt o N a b = openN r m (a : Int) (b : Int) ∧ 0 ≤ openAt o N a b) ∧ (∀ s, s < r.start.length → 0 ≤ (placesA r m).getD s 0 ∧ (placesA r m).getD s 0 < r.houses)
theorem truth_pair {r : Reg} (v : Valid r) {t : List Int} {ds : List Nat} (T : Truth r t ds) {N : Nat} (hN : N ≤ 9) : ∃ m, ds[N]? = some m ∧ Pair r N m (daysOf r t) := by
  rcases play_ref v T.dated with ⟨k1, _⟩ | ⟨ds', k1, k2, k3, k4⟩
  · rw [T.play] at k1; cases k1
  · rw [T.play] at k1
    cases k1
    refine ⟨ds.getD N 0, by rw [List.getD_eq_getElem?_getD, List.getElem?_eq_getElem (by omega)]; rfl, ?_⟩
    obtain ⟨h1, h2, h3, _⟩ := k4 N (by omega)
    exact ⟨h1, h2, h3⟩
/-- The evenings and all truths. -/
theorem ev_pairs {r : Reg} (v : Valid r) {N : Nat} {out : List Nat} (hN : N ≤ 9) (h : EvOK r N out) : (∀ m ∈ out, ∃ o ∈ allDays r, Pair r N m o) ∧ (∀ o ∈ allDays r, ∃ m ∈ out, Pair r N m o) := by
  constructor
  · intro m hm
    obtain ⟨t, ds, T, hd⟩ := (rch_truth v hN).1 ((h.1 m).1 hm)
    obtain ⟨m', h1, h2⟩ := truth_pair v T hN
    rw [hd] at h1
    cases h1
    exact ⟨_, List.mem_map.2 ⟨t, (truths_mem v).2 ⟨ds, T⟩, rfl⟩, h2⟩
  · intro o ho
    obtain ⟨t, ht, rfl⟩ := List.mem_map.1 ho
    obtain ⟨ds, T⟩ := (truths_mem v).1 ht
    obtain ⟨m, h1, h2⟩ := truth_pair v T hN
    exact ⟨m, (h.1 m).2 ((rch_truth v hN).2 ⟨t, ds, T, h1⟩), h2⟩
theorem ev_nil {r : Reg} (v : Valid r) {N : Nat} {out : List Nat} (hN : N ≤ 9) (h : EvOK r N out) : out = [] ↔ allDays r = [] := by
  obtain ⟨h1, h2⟩ := ev_pairs v hN h
  constructor
  · rintro rfl
    cases hq : allDays r with
    | nil => rfl
    | cons o l => obtain ⟨m, hm, _⟩ := h2 o (by rw [hq]; exact List.mem_cons_self); cases hm
  · intro e
    cases out with
    | nil => rfl
    | cons m l => obtain ⟨o, ho, _⟩ := h1 m List.mem_cons_self; rw [e] at ho; cases ho
theorem strict_eq : ∀ {a b : List Int}, a.Pairwise (· < ·) → b.Pairwise (· < ·) → (∀ x, x ∈ a ↔ x ∈ b) → a = b
  | [], [], _, _, _ => rfl
  | [], y :: b, _, _, h => by have := (h y).2 List.mem_cons_self; cases this
  | x :: a, [], _, _, h => by have := (h x).1 List.mem_cons_self; cases this
  | x :: a, y :: b, ha, hb, h => by
    rw [List.pairwise_cons] at ha hb
    have hxy : x = y := by
      rcases List.mem_cons.1 ((h x).1 List.mem_cons_self) with e | e
      · exact e
      · rcases List.mem_cons.1 ((h y).2 List.mem_cons_self) with f | f
        · exact f.symm
        · have := hb.1 x e; have := ha.1 y f; omega
    subst hxy
    congr 1
    refine strict_eq ha.2 hb.2 fun z => ⟨fun hz => ?_, fun hz => ?_⟩
    · rcases List.mem_cons.1 ((h z).1 (List.mem_cons_of_mem _ hz)) with e | e
      · have := ha.1 z hz; omega
      · exact e
    · rcases List.mem_cons.1 ((h z).2 (List.mem_cons_of_mem _ hz)) with e | e
      · have := hb.1 z hz; omega
      · exact e
theorem compUp {d : Array Int} (hs : ∀ i j, i ≤ j → j < d.size → d[i]! ≤ d[j]!) : ∀ m, m ≤ d.size → (Lib.compactUpTo d m).Pairwise (· < ·) ∧ (∀ x, x ∈ Lib.compactUpTo d m ↔ ∃ j, j < m ∧ d[j]! = x)
  | 0, _ => by simp [Lib.compactUpTo]
  | m + 1, hm => by
    obtain ⟨h1, h2⟩ := compUp hs m (by omega)
    have hsucc : Lib.compactUpTo d (m + 1) = Lib.compactUpTo d m ++ (if Lib.keeps d m then [d[m]!] else []) := by
      unfold Lib.compactUpTo
      rw [List.range_succ, List.filter_append, List.map_append]
      congr 1
      by_cases hk : Lib.keeps d m = true <;> simp [hk]
    rw [hsucc]
    by_cases hk : Lib.keeps d m = true
    · rw [if_pos hk]
      constructor
      · rw [List.pairwise_append]
        refine ⟨h1, by simp, fun a ha b hb => ?_⟩
        rw [List.mem_singleton] at hb
        subst hb
        obtain ⟨j, hj, rfl⟩ := (h2 a).1 ha
        have k1 := hs j (m - 1) (by omega) (by omega)
        have k2 := hs (m - 1) m (by omega) (by omega)
        have : d[m - 1]! ≠ d[m]! := by
          intro e
          unfold Lib.keeps at hk
          simp at hk
          rcases hk with hk | hk
          · omega
          · exact hk (by simpa using e.symm)
        omega
      · intro x
        rw [List.mem_append, h2, List.mem_singleton]
        constructor
        · rintro (⟨j, hj, e⟩ | rfl)
          · exact ⟨j, by omega, e⟩
          · exact ⟨m, by omega, rfl⟩
        · rintro ⟨j, hj, e⟩
          by_cases hjm : j = m
          · subst hjm; exact .inr e.symm
          · exact .inl ⟨j, by omega, e⟩
    · rw [if_neg hk, List.append_nil]
      refine ⟨h1, fun x => ?_⟩
      rw [h2]
      have hm0 : m ≠ 0 ∧ d[m]! = d[m - 1]! := by
        unfold Lib.keeps at hk
        simp at hk
        exact ⟨hk.1, by simpa using hk.2⟩
      constructor
      · rintro ⟨j, hj, e⟩; exact ⟨j, by omega, e⟩
      · rintro ⟨j, hj, e⟩
        by_cases hjm : j = m
        · subst hjm; exact ⟨j - 1, by omega, by rw [← hm0.2]; exact e⟩
        · exact ⟨j, by omega, e⟩
theorem comp_sorted {l : List Int} (h : l.Pairwise (· ≤ ·)) : (compL l).Pairwise (· < ·) ∧ ∀ x, x ∈ compL l ↔ x ∈ l := by
  unfold compL Lib.compact
  have hs : ∀ i j, i ≤ j → j < l.toArray.size → l.toArray[i]! ≤ l.toArray[j]! := fun i j hij hj => by
    have hj' : j < l.length := by simpa using hj
    rw [getElem!_pos l.toArray i (by simp; omega), getElem!_pos l.toArray j (by simpa using hj)]
    simp only [List.getElem_toArray]
    by_cases e : i = j
    · subst e; exact Int.le_refl _
    · exact List.pairwise_iff_getElem.1 h i j (by omega) hj' (by omega)
  obtain ⟨h1, h2⟩ := compUp hs l.length (by simp)
  refine ⟨h1, fun x => ?_⟩
  rw [h2, List.mem_iff_getElem]
  constructor
  · rintro ⟨j, hj, e⟩
    rw [getElem!_pos l.toArray j (by simpa using hj)] at e
    exact ⟨j, hj, by simpa using e⟩
  · rintro ⟨j, hj, e⟩
    refine ⟨j, hj, ?_⟩
    rw [getElem!_pos l.toArray j (by simpa using hj)]
    simpa using e
theorem sort_sorted (l : List Int) : (sortL l).Pairwise (· ≤ ·) ∧ ∀ x, x ∈ sortL l ↔ x ∈ l := by
  unfold sortL
  refine ⟨?_, fun x => List.mem_mergeSort⟩
  have := List.pairwise_mergeSort (le := fun x y : Int => decide (x ≤ y)) (fun a b c h1 h2 => by simp at *; omega) (fun a b => by simp; omega) l
  exact this.imp fun h => by simpa using h
theorem range_strict (n : Nat) (p : Nat → Bool) : (((List.range n).filter p).map Int.ofNat).Pairwise (· < ·) := by
  rw [List.pairwise_map]
  refine List.Pairwise.imp (R := (· < ·)) (fun h => by simpa using h) ?_
  exact List.Pairwise.filter _ List.pairwise_lt_range
theorem holders_eq {r : Reg} (v : Valid r) {N s : Nat} {out : List Nat} (hN : N ≤ 9) (hs : s < r.start.length) (h : EvOK r N out) : holdR r (s : Nat) out = refHolders r (allDays r) s N r.houses.toNat := by
  obtain ⟨h1, h2⟩ := ev_pairs v hN h
  have hs4 := v.s4
  unfold holdR
  obtain ⟨k1, k2⟩ := sort_sorted (holdL r out (s : Int).toNat)
  obtain ⟨q1, q2⟩ := comp_sorted k1
  refine strict_eq q1 (range_strict _ _) fun x => ?_
  rw [q2, k2]
  unfold holdL refHolders
  simp only [List.mem_map, List.mem_filter, List.mem_range, List.any_eq_true, beq_iff_eq, Int.toNat_natCast]
  constructor
  · rintro ⟨m, hm, rfl⟩
    obtain ⟨o, ho, p1, _, p3⟩ := h1 m hm
    have := p3 s hs
    refine ⟨((placesA r m).getD s 0).toNat, ⟨by omega, o, ho, ?_⟩, ?_⟩
    · rw [p1 s (by omega)]; omega
    · show ((_ : Nat) : Int) = _
      omega
  · rintro ⟨x, ⟨_, o, ho, e⟩, rfl⟩
    obtain ⟨m, hm, p1, _⟩ := h2 o ho
    exact ⟨m, hm, by rw [← p1 s (by omega), e]; rfl⟩
theorem surely_eq {r : Reg} (v : Valid r) {N : Nat} {a : Int} {out : List Nat} (hN : N ≤ 9) (hne : out ≠ []) (h : EvOK r N out) : surelyR r a out = refSurely (allDays r) a N r.start.length := by
  obtain ⟨h1, h2⟩ := ev_pairs v hN h
  have hs4 := v.s4
  unfold surelyR refSurely
  have hie : out.isEmpty = false := by cases out with
    | nil => exact (hne rfl).elim
    | cons _ _ => rfl
  rw [hie, cond_false]
  congr 1
  apply List.filter_congr
  intro s hs
  rw [List.mem_range] at hs
  rw [Bool.eq_iff_iff, List.all_eq_true, List.all_eq_true]
  constructor
  · intro k o ho
    obtain ⟨m, hm, p1, _⟩ := h2 o ho
    rw [p1 s (by omega)]
    exact k m hm
  · intro k m hm
    obtain ⟨o, ho, p1, _⟩ := h1 m hm
    rw [← p1 s (by omega)]
    exact k o ho
/-- The bounds of numbers from 0 to 9. -/
theorem rangeF_ok : ∀ (l : List Int) (p : Int × Int), (∀ x ∈ l, 0 ≤ x ∧ x ≤ 9) → (l.foldl (fun p n => (min p.1 n, max p.2 n)) p).1 = l.foldl min p.1 ∧ (l.foldl (fun p n => (min p.1 n, max p.2 n)) p).2 = l.foldl max p.2
  | [], p, _ => ⟨rfl, rfl⟩
  | x :: l, p, h => by
    simp only [List.foldl_cons]
    exact rangeF_ok l _ fun y hy => h y (List.mem_cons_of_mem _ hy)
theorem foldmin : ∀ (l : List Int) (x : Int), (l.foldl min x = x ∨ l.foldl min x ∈ l) ∧ l.foldl min x ≤ x ∧ ∀ y ∈ l, l.foldl min x ≤ y
  | [], x => ⟨.inl rfl, Int.le_refl _, fun y hy => by cases hy⟩
  | z :: l, x => by
    obtain ⟨h1, h2, h3⟩ := foldmin l (min x z)
    simp only [List.foldl_cons]
    refine ⟨?_, by omega, fun y hy => ?_⟩
    · rcases h1 with h1 | h1
      · rw [h1]
        by_cases hx : x ≤ z
        · left; omega
        · right; rw [show min x z = z by omega]; exact List.mem_cons_self
      · exact .inr (List.mem_cons_of_mem _ h1)
    · rcases List.mem_cons.1 hy with rfl | hy
      · omega
      · exact h3 y hy
theorem foldmax : ∀ (l : List Int) (x : Int), (l.foldl max x = x ∨ l.foldl max x ∈ l) ∧ x ≤ l.foldl max x ∧ ∀ y ∈ l, y ≤ l.foldl max x
  | [], x => ⟨.inl rfl, Int.le_refl _, fun y hy => by cases hy⟩
  | z :: l, x => by
    obtain ⟨h1, h2, h3⟩ := foldmax l (max x z)
    simp only [List.foldl_cons]
    refine ⟨?_, by omega, fun y hy => ?_⟩
    · rcases h1 with h1 | h1
      · rw [h1]
        by_cases hx : z ≤ x
        · left; omega
        · right; rw [show max x z = z by omega]; exact List.mem_cons_self
      · exact .inr (List.mem_cons_of_mem _ h1)
    · rcases List.mem_cons.1 hy with rfl | hy
      · omega
      · exact h3 y hy
theorem range_same {l : List Int} {x : Int} {l' : List Int} (hm : ∀ y, y ∈ x :: l' ↔ y ∈ l) (hb : ∀ y ∈ l, 0 ≤ y ∧ y ≤ 9) : rangeF l = (minL x l', maxL x l') := by
  unfold rangeF
  obtain ⟨e1, e2⟩ := rangeF_ok l (9, 0) hb
  have hx : x ∈ l := (hm x).1 List.mem_cons_self
  have bx := hb x hx
  refine Prod.ext ?_ ?_
  · rw [e1]
    dsimp only
    obtain ⟨h1, h2, h3⟩ := foldmin l 9
    have k1 := minL_mem (x := x) (l := l')
    have k2 := minL_le (x := x) (l := l')
    have k3 := h3 _ ((hm _).1 k1)
    have k4 := hb _ ((hm _).1 k1)
    rcases h1 with h1 | h1
    · have := h3 x hx; have := k2 x List.mem_cons_self; omega
    · have := k2 _ ((hm _).2 h1); omega
  · rw [e2]
    dsimp only
    obtain ⟨h1, h2, h3⟩ := foldmax l 0
    have k1 := maxL_mem (x := x) (l := l')
    have k2 := maxL_ge (x := x) (l := l')
    have k3 := h3 _ ((hm _).1 k1)
    have k4 := hb _ ((hm _).1 k1)
    rcases h1 with h1 | h1
    · have := h3 x hx; have := k2 x List.mem_cons_self; omega
    · have := k2 _ ((hm _).2 h1); omega
theorem pairs_mem {r : Reg} {N : Nat} {out : List Nat} {all : List (List Int)} {f : Nat → Int} {g : List Int → Int} (h1 : ∀ m ∈ out, ∃ o ∈ all, Pair r N m o) (h2 : ∀ o ∈ all, ∃ m ∈ out, Pair r N m o) (hfg : ∀ m o, Pair r N m o → g o = f m) :
    ∀ y, y ∈ out.map f ↔ y ∈ all.map g := fun y => by
  simp only [List.mem_map]
  constructor
  · rintro ⟨m, hm, rfl⟩
    obtain ⟨o, ho, p⟩ := h1 m hm
    exact ⟨o, ho, hfg m o p⟩
  · rintro ⟨o, ho, rfl⟩
    obtain ⟨m, hm, p⟩ := h2 o ho
    exact ⟨m, hm, (hfg m o p).symm⟩
theorem count_eq {r : Reg} (v : Valid r) {N m : Nat} {o : List Int} {a : Int} (p : Pair r N m o) : (countAt o N r.start.length a : Int) = (heldN r m a : Nat) := by
  have hs4 := v.s4
  unfold countAt heldN
  have : (placesA r m).take r.start.length = (List.range r.start.length).map fun s => houseAt o N s := by
    apply List.ext_getElem?
    intro i
    rw [List.getElem?_take, List.getElem?_map]
    split
    · rename_i hi
      rw [List.getElem?_range hi, getD_some (l := placesA r m) (by rw [placesA_len]; omega), ← p.1 i (by omega)]
      rfl
    · rename_i hi
      rw [List.getElem?_eq_none (by simpa using hi)]
      rfl
  rw [this, List.countP_map]
  rfl
theorem held_eq {r : Reg} (v : Valid r) {N : Nat} {a : Int} {out : List Nat} (hN : N ≤ 9) (hne : out ≠ []) (h : EvOK r N out) : heldR r a out = refInHand r (allDays r) a N := by
  obtain ⟨h1, h2⟩ := ev_pairs v hN h
  have hs4 := v.s4
  cases out with
  | nil => exact (hne rfl).elim
  | cons d0 l =>
    unfold heldR refInHand
    refine (range_same (fun y => ?_) fun y hy => ?_).symm
    · exact pairs_mem (f := fun d => (heldN r d a : Int)) h1 h2 (fun m o p => count_eq v p) y
    · obtain ⟨o, ho, rfl⟩ := List.mem_map.1 hy
      have : countAt o N r.start.length a ≤ (List.range r.start.length).length := List.countP_le_length
      rw [List.length_range] at this
      omega
theorem owed_eq {r : Reg} (v : Valid r) {N a b : Nat} {out : List Nat} (ha : a < 4) (hb : b < 4) (hN : N ≤ 9) (hne : out ≠ []) (h : EvOK r N out) : owedR r (a : Nat) (b : Nat) out = refOwed (allDays r) a b N := by
  obtain ⟨h1, h2⟩ := ev_pairs v hN h
  have he6 := v.e6
  cases out with
  | nil => exact (hne rfl).elim
  | cons d0 l =>
    unfold owedR refOwed
    refine (range_same (fun y => ?_) fun y hy => ?_).symm
    · exact pairs_mem (f := fun d => openN r d (a : Nat) (b : Nat)) h1 h2 (fun m o p => (p.2.1 a b ha hb).1) y
    · obtain ⟨o, ho, rfl⟩ := List.mem_map.1 hy
      obtain ⟨m, _, p⟩ := h2 o ho
      have := p.2.1 a b ha hb
      have hbd := openF_bd (d := m) (a := a) (c := b) (k := 0) (es := r.entries) (x := 0) (m := 0) (by omega) (by omega)
      unfold openN at this
      omega
theorem sameB_self (a : List Int) : sameB a a = true := by
  have : beforeB a a = false := by
    induction a with
    | nil => rfl
    | cons x a ih => simp [beforeB, ih]
  simp [sameB, this]
end Go.Proofs.Ytnbmmopjkkofoaa
