/-
  Plain laws of layer 5: the ways of the walk are the truths. No condition: no statement of the seat is proved here.
-/
import Derived.Test.YtnbmmopjkkofoaaP1
namespace Go.Proofs.Ytnbmmopjkkofoaa
set_option linter.all false

theorem canB_bit {r : Reg} {n m : Nat} (h : canB r n m = true) : m.testBit n = false := by
  unfold canB at h
  split at h
  · cases h
  · unfold canE at h
    simp only [Bool.and_eq_true, Bool.not_eq_true'] at h
    exact h.1.1
theorem nextL_cases {r : Reg} {d n m : Nat} {s : Nat × Nat × Nat} (h : s ∈ nextL r d n m) : ∃ e, r.entries[n]? = some e ∧ ((inE e d = true ∧ canB r n m = true ∧ s = (d, n + 1, m ||| 2 ^ n)) ∨ ((m.testBit n = true ∨ (d : Int) < e.hi) ∧ s = (d, n + 1, m))) := by
  unfold nextL at h
  split at h
  · rename_i e he
    refine ⟨e, he, ?_⟩
    unfold nextE at h
    rcases List.mem_append.1 h with h | h
    · cases hc : (inE e d && canB r n m) <;> rw [hc] at h <;> simp at h
      simp only [Bool.and_eq_true] at hc
      exact .inl ⟨hc.1, hc.2, h⟩
    · cases hc : (m.testBit n || decide ((d : Int) < e.hi)) <;> rw [hc] at h <;> simp at h
      simp only [Bool.or_eq_true, decide_eq_true_eq] at hc
      exact .inr ⟨hc, h⟩
  · cases h
theorem nextL_take {r : Reg} {d n m : Nat} {e : Ent5} (he : r.entries[n]? = some e) (h1 : inE e d = true) (h2 : canB r n m = true) : (d, n + 1, m ||| 2 ^ n) ∈ nextL r d n m := by
  simp [nextL, he, nextE, h1, h2]
theorem nextL_skip {r : Reg} {d n m : Nat} {e : Ent5} (he : r.entries[n]? = some e) (h : m.testBit n = true ∨ (d : Int) < e.hi) : (d, n + 1, m) ∈ nextL r d n m := by
  have : (m.testBit n || decide ((d : Int) < e.hi)) = true := by simpa using h
  simp only [nextL, he, nextE, this, cond_true]
  simp
theorem or_ne {m n : Nat} (h : m.testBit n = false) : m ||| 2 ^ n ≠ m := fun e => by
  have := congrArg (fun x => x.testBit n) e
  simp only [or_bit, h, decide_true, Bool.or_true] at this
  cases this
def PInv (r : Reg) (d n m : Nat) (ts : List Int) : Prop := d ≤ 10 ∧ n ≤ r.entries.length ∧ ts.length = r.entries.length ∧ m < 2 ^ r.entries.length ∧ ∀ i e, r.entries[i]? = some e →
  (m.testBit i = true → ∃ x : Nat, ts[i]? = some (x : Int) ∧ inE e x = true ∧ (x < d ∨ x = d ∧ i < n)) ∧ (m.testBit i = false → (d : Int) < e.hi ∨ ((d : Int) = e.hi ∧ n ≤ i))
def Fits (r : Reg) (t : List Int) (d n m : Nat) (ts : List Int) : Prop := ∀ i, i < r.entries.length → (m.testBit i = true → t[i]? = ts[i]?) ∧ (m.testBit i = false → ∃ x, t[i]? = some x ∧ ((d : Int) < x ∨ (x = d ∧ n ≤ i)))
inductive Way (r : Reg) (t : List Int) : Nat → Nat → Nat → Prop
  | start : Way r t 0 0 0
  | day {d m} (h : Way r t d r.entries.length m) (hd : d ≤ 9) (hs : seenN r d m = true) : Way r t (d + 1) 0 m
  | take {d n m e} (h : Way r t d n m) (hd : d ≤ 9) (he : r.entries[n]? = some e) (ht : t[n]? = some (d : Int)) (hi : inE e d = true) (hc : canB r n m = true) : Way r t d (n + 1) (m ||| 2 ^ n)
  | skip {d n m e x} (h : Way r t d n m) (hd : d ≤ 9) (he : r.entries[n]? = some e) (ht : t[n]? = some x) (hx : x ≠ (d : Int)) (hq : m.testBit n = true ∨ (d : Int) < e.hi) : Way r t d (n + 1) m
theorem path_way {r : Reg} (v : Valid r) {d n m : Nat} {ts : List Int} (h : PathTo r d n m ts) : PInv r d n m ts ∧ ∀ t : List Int, t.length = r.entries.length → Fits r t d n m ts → Way r t d n m := by
  induction h with
  | start =>
    refine ⟨⟨Nat.zero_le _, Nat.zero_le _, by simp, Nat.two_pow_pos _, fun i e he => ⟨fun hb => by simp at hb, fun _ => ?_⟩⟩, fun t _ _ => .start⟩
    have := v.en e (List.mem_of_getElem? he)
    omega
  | @day d m ts h hd hs ih =>
    obtain ⟨⟨i1, i2, i3, i4, i5⟩, ihw⟩ := ih
    refine ⟨⟨by omega, Nat.zero_le _, i3, i4, fun i e he => ⟨fun hb => ?_, fun hb => ?_⟩⟩, fun t ht hf => ?_⟩
    · obtain ⟨x, k1, k2, k3⟩ := (i5 i e he).1 hb
      exact ⟨x, k1, k2, .inl (by omega)⟩
    · have := (i5 i e he).2 hb
      have hlt := (List.getElem?_eq_some_iff.1 he).1
      omega
    · refine .day (ihw t ht fun i hi => ⟨(hf i hi).1, fun hb => ?_⟩) hd hs
      obtain ⟨x, k1, k2⟩ := (hf i hi).2 hb
      exact ⟨x, k1, .inl (by omega)⟩
  | @next d n m ts s h hd hs ih =>
    obtain ⟨⟨i1, i2, i3, i4, i5⟩, ihw⟩ := ih
    obtain ⟨e, he, hcase⟩ := nextL_cases hs
    have hn := (List.getElem?_eq_some_iff.1 he).1
    rcases hcase with ⟨hin, hcan, rfl⟩ | ⟨hq, rfl⟩
    · have hb0 := canB_bit hcan
      rw [if_neg (or_ne hb0)]
      dsimp only
      refine ⟨⟨i1, hn, by simpa using i3, Nat.or_lt_two_pow i4 (Nat.pow_lt_pow_right (by omega) hn), fun i e' he' => ⟨fun hb => ?_, fun hb => ?_⟩⟩, fun t ht hf => ?_⟩
      · rw [or_bit] at hb
        by_cases e1 : n = i
        · subst e1
          rw [he] at he'
          cases he'
          exact ⟨d, by simp [i3, hn], hin, .inr ⟨rfl, by omega⟩⟩
        · simp only [e1, decide_false, Bool.or_false] at hb
          obtain ⟨x, k1, k2, k3⟩ := (i5 i e' he').1 hb
          exact ⟨x, by rw [List.getElem?_set_ne e1]; exact k1, k2, by omega⟩
      · rw [or_bit] at hb
        simp only [Bool.or_eq_false_iff, decide_eq_false_iff_not] at hb
        have := (i5 i e' he').2 hb.1
        omega
      · have htn : t[n]? = some (d : Int) := by
          rw [(hf n hn).1 (by rw [or_bit]; simp)]
          simp [i3, hn]
        refine .take (ihw t ht fun i hi => ⟨fun hb => ?_, fun hb => ?_⟩) hd he htn hin hcan
        · have e1 : n ≠ i := fun e1 => by subst e1; rw [hb0] at hb; cases hb
          rw [(hf i hi).1 (by rw [or_bit, hb]; rfl), List.getElem?_set_ne e1]
        · by_cases e1 : n = i
          · subst e1; exact ⟨d, htn, .inr ⟨rfl, Nat.le_refl _⟩⟩
          · obtain ⟨x, k1, k2⟩ := (hf i hi).2 (by rw [or_bit, hb]; simpa using e1)
            exact ⟨x, k1, by omega⟩
    · rw [if_pos rfl]
      dsimp only
      refine ⟨⟨i1, hn, i3, i4, fun i e' he' => ⟨fun hb => ?_, fun hb => ?_⟩⟩, fun t ht hf => ?_⟩
      · obtain ⟨x, k1, k2, k3⟩ := (i5 i e' he').1 hb
        exact ⟨x, k1, k2, by omega⟩
      · by_cases e1 : n = i
        · subst e1
          rw [he] at he'
          cases he'
          exact .inl (hq.resolve_left (by rw [hb]; simp))
        · have := (i5 i e' he').2 hb
          omega
      · obtain ⟨x, hx⟩ := ex_get (l := t) (i := n) (by omega)
        refine .skip (x := x) (ihw t ht fun i hi => ⟨(hf i hi).1, fun hb => ?_⟩) hd he hx (fun e1 => ?_) hq
        · obtain ⟨y, k1, k2⟩ := (hf i hi).2 hb
          exact ⟨y, k1, by omega⟩
        · subst e1
          cases hb : m.testBit n with
          | true =>
            obtain ⟨y, k1, k2, k3⟩ := (i5 n e he).1 hb
            have := (hf n hn).1 hb
            rw [hx, k1] at this
            have := Option.some.inj this
            omega
          | false =>
            obtain ⟨y, k1, k2⟩ := (hf n hn).2 hb
            rw [hx] at k1
            have := Option.some.inj k1
            omega
theorem playF_snoc {r : Reg} {t : List Int} : ∀ {k n m0 : Nat} {ds : List Nat} {m' : Nat}, playF r t k n m0 = some ds → dayF r ((n + k : Nat) : Int) 0 t (ds.getLastD m0) = some m' → playF r t (k + 1) n m0 = some (ds ++ [m'])
  | 0, n, m0, ds, m', h, hd => by
    simp only [playF, Option.some.injEq] at h
    subst h
    simp only [List.getLastD_nil, Nat.add_zero] at hd
    simp [playF, hd]
  | k + 1, n, m0, ds, m', h, hd => by
    rw [playF] at h
    split at h
    · cases h
    · rename_i d1 h1
      split at h
      · cases h
      · rename_i ds1 h2
        cases h
        rw [List.getLastD_cons] at hd
        have := playF_snoc (n := n + 1) h2 (by rw [show n + 1 + k = n + (k + 1) by omega]; exact hd)
        rw [playF, h1]
        simp only
        rw [this]
        rfl
theorem playF_get {r : Reg} {t : List Int} : ∀ {cnt n m0 : Nat} {ds : List Nat}, playF r t cnt n m0 = some ds → ∀ j, j < cnt → ∃ x, ds[j]? = some x ∧ playF r t j n m0 = some (ds.take j) ∧ dayF r ((n + j : Nat) : Int) 0 t ((ds.take j).getLastD m0) = some x
  | 0, _, _, _, _, j, hj => by omega
  | cnt + 1, n, m0, ds, h, j, hj => by
    rw [playF] at h
    split at h
    · cases h
    · rename_i d1 h1
      split at h
      · cases h
      · rename_i ds1 h2
        cases h
        cases j with
        | zero => exact ⟨d1, rfl, rfl, h1⟩
        | succ j =>
          obtain ⟨x, k1, k2, k3⟩ := playF_get h2 j (by omega)
          refine ⟨x, by simpa using k1, ?_, ?_⟩
          · rw [playF, h1]
            simp only
            rw [k2]
            rfl
          · rw [List.take_succ_cons, List.getLastD_cons, show n + (j + 1) = n + 1 + j by omega]
            exact k3
theorem playF_lenx {r : Reg} {t : List Int} : ∀ {cnt n m0 : Nat} {ds : List Nat}, playF r t cnt n m0 = some ds → ds.length = cnt
  | 0, _, _, _, h => by simp only [playF, Option.some.injEq] at h; subst h; rfl
  | cnt + 1, n, m0, ds, h => by
    rw [playF] at h
    split at h
    · cases h
    · split at h
      · cases h
      · rename_i ds1 h2
        cases h
        simp [playF_lenx h2]
theorem seenAll_snoc {r : Reg} {m : Nat} : ∀ {n : Nat} {ds : List Nat}, seenAll r n (ds ++ [m]) = (seenAll r n ds && seenN r (n + ds.length) m)
  | n, [] => by simp [seenAll, seenN]
  | n, d :: ds => by
    simp only [List.cons_append, seenAll, seenAll_snoc, List.length_cons, Bool.and_assoc]
    rw [show n + 1 + ds.length = n + (ds.length + 1) by omega]
theorem seenAll_get {r : Reg} : ∀ {n : Nat} {ds : List Nat}, seenAll r n ds = true → ∀ {j x : Nat}, ds[j]? = some x → seenN r (n + j) x = true
  | _, [], _, _, _, h => by simp at h
  | n, d :: ds, hs, 0, x, h => by
    simp only [List.getElem?_cons_zero, Option.some.injEq] at h
    subst h
    simp only [seenAll, Bool.and_eq_true] at hs
    exact hs.1
  | n, d :: ds, hs, j + 1, x, h => by
    simp only [seenAll, Bool.and_eq_true] at hs
    have := seenAll_get hs.2 (j := j) (x := x) (by simpa using h)
    rwa [show n + 1 + j = n + (j + 1) by omega] at this
theorem way_play {r : Reg} {t : List Int} (hl : t.length = r.entries.length) {d n m : Nat} (h : Way r t d n m) : n ≤ r.entries.length ∧ ∃ ds, playF r t d 0 0 = some ds ∧ seenAll r 0 ds = true ∧ dayF r (d : Int) 0 t (ds.getLastD 0) = dayF r (d : Int) n (t.drop n) m := by
  induction h with
  | start => exact ⟨Nat.zero_le _, [], rfl, rfl, rfl⟩
  | @day d m h hd hs ih =>
    obtain ⟨_, ds, k1, k2, k3⟩ := ih
    have hday : dayF r (d : Int) 0 t (ds.getLastD 0) = some m := by
      rw [k3, List.drop_of_length_le (by omega)]
      rfl
    have := playF_snoc k1 (by rw [Nat.zero_add]; exact hday)
    refine ⟨Nat.zero_le _, _, this, ?_, ?_⟩
    · rw [seenAll_snoc, k2, playF_lenx k1, Nat.zero_add, hs]
      rfl
    · rw [List.getLastD_concat]
      rfl
  | @take d n m e h hd he ht hi hc ih =>
    obtain ⟨_, ds, k1, k2, k3⟩ := ih
    refine ⟨(List.getElem?_eq_some_iff.1 he).1, ds, k1, k2, ?_⟩
    rw [k3, drop_of ht]
    simp only [dayF, bne_self_eq_false, cond_false, hc, Bool.not_true]
  | @skip d n m e x h hd he ht hx hq ih =>
    obtain ⟨_, ds, k1, k2, k3⟩ := ih
    refine ⟨(List.getElem?_eq_some_iff.1 he).1, ds, k1, k2, ?_⟩
    rw [k3, drop_of ht]
    have : (x != (d : Int)) = true := by simpa using hx
    simp only [dayF, this, cond_true]
/-- A truth, and what has happened at the end of each day. -/
structure Truth (r : Reg) (t : List Int) (ds : List Nat) : Prop where
  dated : datedF r.entries t = true
  play : playDays r t = some ds
  seen : seenAll r 0 ds = true
theorem datedF_of : ∀ {es : List Ent5} {ts : List Int}, ts.length = es.length → (∀ (i : Nat) (e : Ent5), es[i]? = some e → ∃ x, ts[i]? = some x ∧ e.lo ≤ x ∧ x ≤ e.hi) → datedF es ts = true
  | [], [], _, _ => rfl
  | [], _ :: _, h, _ => by simp at h
  | _ :: _, [], h, _ => by simp at h
  | e :: es, t :: ts, h, k => by
    obtain ⟨x, h1, h2⟩ := k 0 e rfl
    simp only [List.getElem?_cons_zero, Option.some.injEq] at h1
    subst h1
    simp only [datedF, Bool.and_eq_true, decide_eq_true_eq]
    exact ⟨h2, datedF_of (by simpa using h) fun i e' he => by simpa using k (i + 1) e' (by simpa using he)⟩
theorem path_full {r : Reg} (v : Valid r) {n m : Nat} {ts : List Int} (h : PInv r 10 n m ts) : ∀ i, i < r.entries.length → m.testBit i = true := fun i hi => by
  obtain ⟨e, he⟩ := ex_get hi
  have := v.en e (List.mem_of_getElem? he)
  cases hb : m.testBit i with
  | true => rfl
  | false => have := (h.2.2.2.2 i e he).2 hb; omega
theorem truth_of_path {r : Reg} (v : Valid r) {n m : Nat} {ts : List Int} (h : PathTo r 10 n m ts) : ∃ ds, Truth r ts ds := by
  obtain ⟨hi, hw⟩ := path_way v h
  have hall := path_full v hi
  have hl := hi.2.2.1
  have way := hw ts hl fun i hlt => ⟨fun _ => rfl, fun hb => by rw [hall i hlt] at hb; cases hb⟩
  obtain ⟨_, ds, k1, k2, _⟩ := way_play hl way
  refine ⟨ds, datedF_of hl fun i e he => ?_, k1, k2⟩
  obtain ⟨x, h1, h2, _⟩ := (hi.2.2.2.2 i e he).1 (hall i (List.getElem?_eq_some_iff.1 he).1)
  simp only [inE, Bool.and_eq_true, decide_eq_true_eq] at h2
  exact ⟨x, h1, h2⟩
theorem path_go {r : Reg} (v : Valid r) : ∀ (k d n m : Nat) (ts : List Int), muS r d n < k → PathTo r d n m ts → goesB r d n m = true → ∃ n' m' ts', PathTo r 10 n' m' ts' ∧ Fits r ts' d n m ts
  | 0, _, _, _, _, h, _, _ => by omega
  | k + 1, d, n, m, ts, hk, hp, hg => by
    have hi := (path_way v hp).1
    by_cases hd : d = 10
    · subst hd
      exact ⟨n, m, ts, hp, fun i hlt => ⟨fun _ => rfl, fun hb => by rw [path_full v hi i hlt] at hb; cases hb⟩⟩
    have hd9 : d ≤ 9 := by have := hi.1; omega
    by_cases hn : n < r.entries.length
    · rw [goesB_next hd9 hn] at hg
      obtain ⟨s, hs, hgs⟩ := List.any_eq_true.1 hg
      have hnx := PathTo.next hp hd9 hs
      have hmu := muS_next (r := r) hd9 hn
      obtain ⟨e, he, hcase⟩ := nextL_cases hs
      rcases hcase with ⟨hin, hcan, rfl⟩ | ⟨hq, rfl⟩
      · have hb0 := canB_bit hcan
        rw [if_neg (or_ne hb0)] at hnx
        obtain ⟨n', m', ts', k1, k2⟩ := path_go v k _ _ _ _ (by dsimp only; omega) hnx hgs
        refine ⟨n', m', ts', k1, fun i hlt => ⟨fun hb => ?_, fun hb => ?_⟩⟩
        · have e1 : n ≠ i := fun e1 => by subst e1; rw [hb0] at hb; cases hb
          rw [(k2 i hlt).1 (by rw [or_bit, hb]; rfl), List.getElem?_set_ne e1]
        · by_cases e1 : n = i
          · subst e1
            refine ⟨d, ?_, .inr ⟨rfl, Nat.le_refl _⟩⟩
            rw [(k2 n hlt).1 (by rw [or_bit]; simp)]
            simp [hi.2.2.1, hn]
          · obtain ⟨x, q1, q2⟩ := (k2 i hlt).2 (by rw [or_bit, hb]; simpa using e1)
            dsimp only at q2
            exact ⟨x, q1, by omega⟩
      · rw [if_pos rfl] at hnx
        obtain ⟨n', m', ts', k1, k2⟩ := path_go v k _ _ _ _ (by dsimp only; omega) hnx hgs
        refine ⟨n', m', ts', k1, fun i hlt => ⟨(k2 i hlt).1, fun hb => ?_⟩⟩
        obtain ⟨x, q1, q2⟩ := (k2 i hlt).2 hb
        dsimp only at q2
        exact ⟨x, q1, by omega⟩
    · obtain rfl : n = r.entries.length := by have := hi.2.1; omega
      rw [goesB_day hd9] at hg
      simp only [Bool.and_eq_true] at hg
      have hmu := muS_day (r := r) (n := r.entries.length) hd9
      obtain ⟨n', m', ts', k1, k2⟩ := path_go v k _ _ _ _ (by omega) (.day hp hd9 hg.1) hg.2
      refine ⟨n', m', ts', k1, fun i hlt => ⟨(k2 i hlt).1, fun hb => ?_⟩⟩
      obtain ⟨x, q1, q2⟩ := (k2 i hlt).2 hb
      exact ⟨x, q1, .inl (by omega)⟩
theorem way_bits {r : Reg} {t : List Int} (v : Valid r) (hd : datedF r.entries t = true) {d n m : Nat} (h : Way r t d n m) : ∀ i, i < r.entries.length → (m.testBit i = true ↔ ∃ x, t[i]? = some x ∧ (x < (d : Int) ∨ x = d ∧ i < n)) := by
  induction h with
  | start =>
    intro i hi
    simp only [Nat.zero_testBit, Bool.false_eq_true, false_iff]
    rintro ⟨x, h1, h2⟩
    have := dated_day v hd h1
    omega
  | @day d m h hd9 hs ih =>
    intro i hi
    rw [ih i hi]
    exact ⟨fun ⟨x, h1, h2⟩ => ⟨x, h1, by omega⟩, fun ⟨x, h1, h2⟩ => ⟨x, h1, by omega⟩⟩
  | @take d n m e h hd9 he ht hin hc ih =>
    intro i hi
    rw [or_bit, Bool.or_eq_true, ih i hi, decide_eq_true_eq]
    constructor
    · rintro (⟨x, h1, h2⟩ | rfl)
      · exact ⟨x, h1, by omega⟩
      · exact ⟨_, ht, .inr ⟨rfl, by omega⟩⟩
    · rintro ⟨x, h1, h2⟩
      by_cases e1 : n = i
      · exact .inr e1
      · exact .inl ⟨x, h1, by omega⟩
  | @skip d n m e x h hd9 he ht hx hq ih =>
    intro i hi
    rw [ih i hi]
    constructor
    · rintro ⟨y, h1, h2⟩; exact ⟨y, h1, by omega⟩
    · rintro ⟨y, h1, h2⟩
      refine ⟨y, h1, ?_⟩
      by_cases e1 : n = i
      · subst e1
        rw [ht] at h1
        cases h1
        omega
      · omega
/-- The step of the way from a spot within a day. -/
theorem way_step {r : Reg} {t : List Int} {ds : List Nat} (v : Valid r) (T : Truth r t ds) {d n m : Nat} (h : Way r t d n m) (hd : d ≤ 9) (hn : n < r.entries.length) : ∃ m', (d, n + 1, m') ∈ nextL r d n m ∧ Way r t d (n + 1) m' := by
  have hl := datedF_len T.dated
  obtain ⟨_, ds', k1, k2, k3⟩ := way_play hl h
  obtain ⟨x, q1, q2, q3⟩ := playF_get T.play d (by omega)
  rw [k1] at q2
  cases q2
  rw [Nat.zero_add, k3] at q3
  obtain ⟨e, he⟩ := ex_get hn
  obtain ⟨y, y1, y2, y3⟩ := datedF_get T.dated he
  rw [drop_of y1] at q3
  by_cases hy : y = (d : Int)
  · subst hy
    simp only [dayF, bne_self_eq_false, cond_false] at q3
    have hc : canB r n m = true := by
      cases hc : canB r n m with
      | true => rfl
      | false => rw [hc] at q3; cases q3
    have hin : inE e d = true := by simp only [inE, Bool.and_eq_true, decide_eq_true_eq]; exact ⟨y2, y3⟩
    exact ⟨_, nextL_take he hin hc, .take h hd he y1 hin hc⟩
  · have hq : m.testBit n = true ∨ (d : Int) < e.hi := by
      by_cases hlt : y < (d : Int)
      · exact .inl ((way_bits v T.dated h n hn).2 ⟨y, y1, .inl hlt⟩)
      · exact .inr (by omega)
    exact ⟨_, nextL_skip he hq, .skip h hd he y1 hy hq⟩
/-- At the end of a day. -/
theorem way_end {r : Reg} {t : List Int} {ds : List Nat} (T : Truth r t ds) {d m : Nat} (h : Way r t d r.entries.length m) (hd : d ≤ 9) : ds[d]? = some m ∧ seenN r d m = true := by
  have hl := datedF_len T.dated
  obtain ⟨_, ds', k1, k2, k3⟩ := way_play hl h
  obtain ⟨x, q1, q2, q3⟩ := playF_get T.play d (by omega)
  rw [k1] at q2
  cases q2
  rw [Nat.zero_add, k3, List.drop_of_length_le (by omega)] at q3
  simp only [dayF, Option.some.injEq] at q3
  subst q3
  refine ⟨q1, ?_⟩
  have := seenAll_get T.seen q1
  rwa [Nat.zero_add] at this
theorem way_goes {r : Reg} {t : List Int} {ds : List Nat} (v : Valid r) (T : Truth r t ds) : ∀ (k d n m : Nat), muS r d n < k → Way r t d n m → goesB r d n m = true
  | 0, _, _, _, h, _ => by omega
  | k + 1, d, n, m, hk, h => by
    by_cases hd : 9 < d
    · exact goesB_end hd
    have hd9 : d ≤ 9 := by omega
    have hn := (way_play (datedF_len T.dated) h).1
    by_cases hlt : n < r.entries.length
    · obtain ⟨m', k1, k2⟩ := way_step v T h hd9 hlt
      have := muS_next (r := r) hd9 hlt
      rw [goesB_next hd9 hlt]
      exact List.any_eq_true.2 ⟨_, k1, way_goes v T k d (n + 1) m' (by omega) k2⟩
    · obtain rfl : n = r.entries.length := by omega
      have := muS_day (r := r) (n := r.entries.length) hd9
      have hs := (way_end T h hd9).2
      rw [goesB_day hd9, hs, way_goes v T k (d + 1) 0 m (by omega) (.day h hd9 hs)]
      rfl
theorem way_rch {r : Reg} {t : List Int} {ds : List Nat} (v : Valid r) (T : Truth r t ds) {N : Nat} {d n m : Nat} (h : Way r t d n m) (hd : d ≤ N) : Rch r N d n m := by
  have hg := way_goes v T _ _ _ _ (Nat.lt_succ_self _) h
  induction h with
  | start => exact .start hg
  | @day d m h hd9 hs ih =>
    refine .step (s := (d + 1, 0, m)) (ih (by omega) (way_goes v T _ _ _ _ (Nat.lt_succ_self _) h)) ?_ hg
    simp only [succL]
    rw [if_neg (by omega), if_neg (by omega)]
    simp
  | @take d n m e h hd9 he ht hin hc ih =>
    refine .step (s := (d, n + 1, m ||| 2 ^ n)) (ih hd (way_goes v T _ _ _ _ (Nat.lt_succ_self _) h)) ?_ hg
    simp only [succL]
    rw [if_pos (List.getElem?_eq_some_iff.1 he).1]
    exact nextL_take he hin hc
  | @skip d n m e x h hd9 he ht hx hq ih =>
    refine .step (s := (d, n + 1, m)) (ih hd (way_goes v T _ _ _ _ (Nat.lt_succ_self _) h)) ?_ hg
    simp only [succL]
    rw [if_pos (List.getElem?_eq_some_iff.1 he).1]
    exact nextL_skip he hq
/-- A truth's way. -/
theorem way_day {r : Reg} {t : List Int} {ds : List Nat} (v : Valid r) (T : Truth r t ds) : ∀ (k d n m : Nat), r.entries.length - n = k → n ≤ r.entries.length → Way r t d n m → d ≤ 9 → ∃ m', Way r t d r.entries.length m'
  | 0, d, n, m, hk, hn, h, hd => by
    obtain rfl : n = r.entries.length := by omega
    exact ⟨m, h⟩
  | k + 1, d, n, m, hk, hn, h, hd => by
    obtain ⟨m', _, k2⟩ := way_step v T h hd (by omega)
    exact way_day v T k d (n + 1) m' (by omega) (by omega) k2 hd
theorem way_all {r : Reg} {t : List Int} {ds : List Nat} (v : Valid r) (T : Truth r t ds) : ∀ d, d ≤ 9 → ∃ m, Way r t d r.entries.length m
  | 0, _ => way_day v T _ 0 0 0 rfl (Nat.zero_le _) .start (by omega)
  | d + 1, hd => by
    obtain ⟨m, h⟩ := way_all v T d (by omega)
    exact way_day v T _ (d + 1) 0 m rfl (Nat.zero_le _) (.day h (by omega) (way_end T h (by omega)).2) hd
theorem rch_goes {r : Reg} {N d n m : Nat} (h : Rch r N d n m) : goesB r d n m = true := by
  cases h with
  | start h => exact h
  | step _ _ hg => exact hg
theorem rch_path {r : Reg} {N d n m : Nat} (hN : N ≤ 9) (h : Rch r N d n m) : ∃ ts, PathTo r d n m ts := by
  induction h with
  | start => exact ⟨_, .start⟩
  | @step d n m s h hs hg ih =>
    obtain ⟨ts, hp⟩ := ih
    have hb := h.bd hN
    unfold succL at hs
    split at hs
    · exact ⟨_, .next hp (by omega) hs⟩
    · split at hs
      · cases hs
      · rw [List.mem_singleton] at hs
        subst hs
        obtain rfl : n = r.entries.length := by omega
        have := rch_goes h
        rw [goesB_day (by omega)] at this
        simp only [Bool.and_eq_true] at this
        exact ⟨_, .day hp (by omega) this.1⟩
/-- There is a truth. -/
theorem goes_truth {r : Reg} (v : Valid r) : goesB r 0 0 0 = true ↔ ∃ t ds, Truth r t ds := by
  constructor
  · intro h
    obtain ⟨n', m', ts', k1, _⟩ := path_go v _ 0 0 0 _ (Nat.lt_succ_self _) .start h
    obtain ⟨ds, T⟩ := truth_of_path v k1
    exact ⟨ts', ds, T⟩
  · rintro ⟨t, ds, T⟩
    exact way_goes v T _ 0 0 0 (Nat.lt_succ_self _) .start
/-- What can have happened at the end of a day. -/
theorem rch_truth {r : Reg} (v : Valid r) {N m : Nat} (hN : N ≤ 9) : Rch r N N r.entries.length m ↔ ∃ t ds, Truth r t ds ∧ ds[N]? = some m := by
  constructor
  · intro h
    obtain ⟨ts, hp⟩ := rch_path hN h
    obtain ⟨n', m', ts', k1, k2⟩ := path_go v _ _ _ _ _ (Nat.lt_succ_self _) hp (rch_goes h)
    obtain ⟨ds, T⟩ := truth_of_path v k1
    have way := (path_way v hp).2 ts' (datedF_len T.dated) k2
    exact ⟨ts', ds, T, (way_end T way hN).1⟩
  · rintro ⟨t, ds, T, hm⟩
    obtain ⟨m', h⟩ := way_all v T N hN
    have := (way_end T h hN).1
    rw [hm] at this
    cases this
    exact way_rch v T h (Nat.le_refl _)
end Go.Proofs.Ytnbmmopjkkofoaa
