/-
  Plain laws of layer 5: what has happened, as a set, and the state that the reference keeps. No condition: no statement of the seat is proved here.
-/
import Derived.Test.YtnbmmopjkkofoaaW12
namespace Go.Proofs.Ytnbmmopjkkofoaa
set_option linter.all false

theorem ext_getD {a b : List Int} (h : a.length = b.length) (k : ∀ j, j < a.length → a.getD j 0 = b.getD j 0) : a = b := by
  apply List.ext_getElem h
  intro i h1 h2
  have := k i h1
  simpa [List.getD_eq_getElem?_getD, h1, h2] using this
theorem getD_set (l : List Int) (i j : Nat) (x : Int) : (l.set i x).getD j 0 = if i = j ∧ j < l.length then x else l.getD j 0 := by
  simp only [List.getD_eq_getElem?_getD, List.getElem?_set]
  by_cases h : i = j
  · subst h
    by_cases hl : i < l.length <;> simp [hl]
  · simp [h]
theorem getD_bump (c : List Int) (h x : Int) (j : Nat) : (bump c h x).getD j 0 = c.getD j 0 + if h.toNat = j ∧ j < c.length then x else 0 := by
  unfold bump
  rw [getD_set]
  split
  · rename_i hh; rw [hh.1]
  · omega
theorem bump_comm (c : List Int) (a x b y : Int) : bump (bump c a x) b y = bump (bump c b y) a x := by
  apply ext_getD (by simp [bump_len])
  intro j hj
  simp only [getD_bump, bump_len]
  omega
theorem comeF_bump {d : Nat} {s : Int} : ∀ {k : Nat} {es : List Ent5} {c : List Int} {h x : Int}, comeF d s k es (bump c h x) = bump (comeF d s k es c) h x
  | _, [], _, _, _ => rfl
  | k, e :: es, c, h, x => by
    simp only [comeF]
    cases d.testBit k && (e.sheet == s)
    · simp only [cond_false]; exact comeF_bump
    · simp only [cond_true]
      rw [bump_comm c h x, bump_comm _ h x, comeF_bump]
theorem or_bit (d j i : Nat) : (d ||| 2 ^ j).testBit i = (d.testBit i || decide (j = i)) := by
  rw [Nat.testBit_or, Nat.testBit_two_pow]
theorem comeF_or_lt {d j : Nat} {s : Int} : ∀ {k : Nat} {es : List Ent5} {c : List Int}, j < k → comeF (d ||| 2 ^ j) s k es c = comeF d s k es c
  | _, [], _, _ => rfl
  | k, e :: es, c, h => by
    simp only [comeF, or_bit]
    rw [show decide (j = k) = false by simp; omega, Bool.or_false]
    exact comeF_or_lt (by omega)
theorem comeF_or {d j : Nat} {s : Int} {e : Ent5} (hb : d.testBit j = false) : ∀ {k : Nat} {es : List Ent5} {c : List Int}, k ≤ j → es[j - k]? = some e →
    comeF (d ||| 2 ^ j) s k es c = bif e.sheet == s then bump (bump (comeF d s k es c) e.frm (-1)) e.to 1 else comeF d s k es c
  | _, [], _, _, h => by simp at h
  | k, x :: es, c, hk, he => by
    by_cases hkj : k = j
    · subst hkj
      simp only [Nat.sub_self, List.getElem?_cons_zero, Option.some.injEq] at he
      subst he
      simp only [comeF, or_bit, hb, decide_true, Bool.or_true, Bool.true_and, Bool.false_and, cond_false]
      rw [comeF_or_lt (by omega)]
      cases x.sheet == s
      · rfl
      · simp only [cond_true]; rw [comeF_bump, comeF_bump]
    · simp only [comeF, or_bit]
      rw [show decide (j = k) = false by simp; omega, Bool.or_false]
      refine comeF_or hb (by omega) ?_
      rw [show j - k = (j - (k + 1)) + 1 by omega] at he
      simpa using he
theorem comeF_zero {s : Int} : ∀ {k : Nat} {es : List Ent5} {c : List Int}, comeF 0 s k es c = c
  | _, [], _ => rfl
  | k, e :: es, c => by simp only [comeF, Nat.zero_testBit, Bool.false_and, cond_false]; exact comeF_zero
def openD (a b : Int) (e : Ent5) : Int := bif (e.kind == 1) && (e.frm == a) && (e.to == b) then 1 else bif (e.kind == 2) && (e.frm == b) && (e.to == a) then -1 else 0
theorem openF_def {d : Nat} {a b : Int} {k : Nat} {e : Ent5} {es : List Ent5} {n : Int} : openF d a b k (e :: es) n = openF d a b (k + 1) es (n + bif d.testBit k then openD a b e else 0) := by
  simp only [openF, openD]
  cases d.testBit k <;> cases ((e.kind == 1) && (e.frm == a) && (e.to == b)) <;> cases ((e.kind == 2) && (e.frm == b) && (e.to == a)) <;> simp <;> rfl
theorem openF_add {d : Nat} {a b : Int} : ∀ {k : Nat} {es : List Ent5} {n x : Int}, openF d a b k es (n + x) = openF d a b k es n + x
  | _, [], _, _ => rfl
  | k, e :: es, n, x => by
    rw [openF_def, openF_def, Int.add_right_comm, openF_add]
theorem openF_or_lt {d j : Nat} {a b : Int} : ∀ {k : Nat} {es : List Ent5} {n : Int}, j < k → openF (d ||| 2 ^ j) a b k es n = openF d a b k es n
  | _, [], _, _ => rfl
  | k, e :: es, n, h => by
    rw [openF_def, openF_def, or_bit, show decide (j = k) = false by simp; omega, Bool.or_false]
    exact openF_or_lt (by omega)
theorem openF_or {d j : Nat} {a b : Int} {e : Ent5} (hb : d.testBit j = false) : ∀ {k : Nat} {es : List Ent5} {n : Int}, k ≤ j → es[j - k]? = some e → openF (d ||| 2 ^ j) a b k es n = openF d a b k es n + openD a b e
  | _, [], _, _, h => by simp at h
  | k, x :: es, n, hk, he => by
    rw [openF_def, openF_def, or_bit]
    by_cases hkj : k = j
    · subst hkj
      simp only [Nat.sub_self, List.getElem?_cons_zero, Option.some.injEq] at he
      subst he
      simp only [hb, decide_true, Bool.or_true, cond_true, cond_false]
      rw [openF_or_lt (by omega), openF_add, Int.add_zero]
    · rw [show decide (j = k) = false by simp; omega, Bool.or_false]
      refine openF_or hb (by omega) ?_
      rw [show j - k = (j - (k + 1)) + 1 by omega] at he
      simpa using he
theorem openF_zero {a b : Int} : ∀ {k : Nat} {es : List Ent5} {n : Int}, openF 0 a b k es n = n
  | _, [], _ => rfl
  | k, e :: es, n => by rw [openF_def, Nat.zero_testBit, cond_false, Int.add_zero]; exact openF_zero
theorem getD_upd (l : List Int) (k j : Nat) (x : Int) : (upd l k x).getD j 0 = l.getD j 0 + if k = j ∧ j < l.length then x else 0 := by
  unfold upd
  rw [getD_set]
  split
  · rename_i hh; rw [hh.1]
  · omega
theorem getD_come0 {h : Int} (j : Nat) (hj : j < 4) : (come0 h).getD j 0 = if h.toNat = j then 1 else 0 := by
  unfold come0
  rw [getD_bump]
  have : ([0, 0, 0, 0] : List Int).getD j 0 = 0 := by rcases j with _ | _ | _ | _ | j <;> rfl
  rw [this]
  by_cases e : h.toNat = j <;> simp [e, hj]
theorem come0_move {f t : Int} : bump (bump (come0 f) f (-1)) t 1 = come0 t := by
  apply ext_getD (by simp [bump_len, come0_len])
  intro j hj
  simp only [bump_len, come0_len] at hj
  simp only [getD_bump, bump_len, come0_len, getD_come0 j hj, hj, and_true]
  omega
theorem come0_idx {h : Int} (h0 : 0 ≤ h) (h4 : h < 4) : idxOf (fun x => (1 : Int) == x) (come0 h) = h := by
  obtain ⟨k, rfl⟩ : ∃ k : Nat, h = k := ⟨h.toNat, by omega⟩
  have hk : k < 4 := by omega
  rcases k with _ | _ | _ | _ | k
  · rfl
  · rfl
  · rfl
  · rfl
  · omega
/-- The set of what has happened, and the state of the reference. -/
structure OkS (r : Reg) (m : Nat) (st : RSt) : Prop where
  l1 : st.1.length = 4
  l2 : st.2.length = 16
  pl : ∀ s : Nat, s < r.start.length → comeF m (s : Int) 0 r.entries (come0 (r.start.getD s 0)) = come0 (st.1.getD s 0) ∧ 0 ≤ st.1.getD s 0 ∧ st.1.getD s 0 < r.houses
  rest : ∀ s : Nat, r.start.length ≤ s → st.1.getD s 0 = 0
  op : ∀ a b : Nat, a < 4 → b < 4 → openN r m (a : Int) (b : Int) = st.2.getD (a * 4 + b) 0
  nn : ∀ j, 0 ≤ st.2.getD j 0
theorem getD_ge {l : List Int} {j : Nat} (h : l.length ≤ j) : l.getD j 0 = 0 := by simp [List.getD_eq_getElem?_getD, List.getElem?_eq_none h]
theorem OkS.places {r : Reg} {m : Nat} {st : RSt} (v : Valid r) (h : OkS r m st) : placesA r m = st.1 := by
  apply ext_getD (by rw [placesA_len, h.l1])
  intro j hj
  rw [placesA_len] at hj
  have : (placesA r m).getD j 0 = placeN r m r.start.length j := getD_of (placesL_get hj)
  rw [this]
  unfold placeN
  split
  · rename_i hlt
    obtain ⟨k1, k2, k3⟩ := h.pl j hlt
    unfold placeOf
    rw [k1, come0_idx k2 (by have := v.h4; omega)]
  · rename_i hge
    rw [getD_ge (by omega), h.rest j (by omega)]
theorem OkS.start (r : Reg) (v : Valid r) : OkS r 0 (startA r r.start.length, List.replicate 16 0) := by
  have h4 := v.s4
  have hlen := startA_len (r := r) (Nat.le_refl _) h4
  have hget : ∀ s, s < r.start.length → (startA r r.start.length).getD s 0 = r.start.getD s 0 := fun s hs => by
    simp only [startA, List.getD_eq_getElem?_getD, List.take_length]
    rw [List.getElem?_append_left hs]
  refine ⟨hlen, by simp, fun s hs => ?_, fun s hs => ?_, fun a b ha hb => ?_, fun j => ?_⟩
  · rw [comeF_zero, hget s hs]
    have := v.st (r.start.getD s 0) (getD_mem hs)
    have := v.h4
    exact ⟨rfl, by omega, by omega⟩
  · simp only [startA, List.getD_eq_getElem?_getD, List.take_length]
    rw [List.getElem?_append_right hs, List.getElem?_replicate]
    split <;> rfl
  · unfold openN
    rw [openF_zero, List.getD_eq_getElem?_getD, List.getElem?_replicate]
    split <;> rfl
  · simp only [List.getD_eq_getElem?_getD, List.getElem?_replicate]
    split <;> simp
theorem OkS.can {r : Reg} {m k : Nat} {st : RSt} {e : Ent5} (v : Valid r) (h : OkS r m st) (he : r.entries[k]? = some e) (hb : m.testBit k = false) : canE r k e m = (refStep e st).isSome := by
  have hen := v.en e (List.mem_of_getElem? he)
  have h4 := v.h4
  have hop := h.op e.to.toNat e.frm.toNat (by omega) (by omega)
  rw [show ((e.to.toNat : Nat) : Int) = e.to by omega, show ((e.frm.toNat : Nat) : Int) = e.frm by omega] at hop
  unfold canE refStep
  rw [h.places v, hb, hop, Bool.eq_iff_iff]
  simp only [Bool.not_false, Bool.true_and, Bool.and_eq_true, beq_iff_eq, Bool.or_eq_true, bne_iff_ne, ne_eq, decide_eq_true_eq]
  cases hc : ((st.1.getD e.sheet.toNat 0 != e.frm) || ((e.kind == 2) && decide (st.2.getD (e.to.toNat * 4 + e.frm.toNat) 0 < 1)))
  · simp only [cond_false, Option.isSome_some]
    simp at hc
    simp only [iff_true]
    refine ⟨hc.1, ?_⟩
    by_cases hk : e.kind = 2
    · right; have := hc.2 hk; simp only [List.getD_eq_getElem?_getD]; omega
    · exact .inl hk
  · simp only [cond_true, Option.isSome_none]
    simp at hc
    simp only [List.getD_eq_getElem?_getD]
    constructor
    · rintro ⟨h1, h2⟩
      rcases hc with hc | hc
      · exact absurd h1 hc
      · omega
    · intro h; cases h
theorem OkS.step {r : Reg} {m k : Nat} {st st' : RSt} {e : Ent5} (v : Valid r) (h : OkS r m st) (he : r.entries[k]? = some e) (hb : m.testBit k = false) (hs : refStep e st = some st') : OkS r (m ||| 2 ^ k) st' := by
  have hen := v.en e (List.mem_of_getElem? he)
  have h4 := v.h4; have hs4 := v.s4
  unfold refStep at hs
  cases hc : ((st.1.getD e.sheet.toNat 0 != e.frm) || ((e.kind == 2) && decide (st.2.getD (e.to.toNat * 4 + e.frm.toNat) 0 < 1))) with
  | true => rw [hc] at hs; cases hs
  | false =>
    rw [hc] at hs
    simp only [cond_false, Option.some.injEq] at hs
    have hat : st.1.getD e.sheet.toNat 0 = e.frm := by
      simp only [Bool.or_eq_false_iff, bne_eq_false_iff_eq] at hc
      exact hc.1
    subst hs
    refine ⟨by simp [h.l1], ?_, fun s hlt => ?_, fun s hge => ?_, fun a b ha hb2 => ?_, fun j => ?_⟩
    · have := h.l2
      cases e.kind == 2 <;> cases e.kind == 1 <;> simp [upd_len, this]
    · obtain ⟨k1, k2, k3⟩ := h.pl s hlt
      simp only [getD_set]
      rw [comeF_or hb (Nat.zero_le _) (by simpa using he), k1]
      by_cases hes : e.sheet = (s : Int)
      · have e1 : e.sheet.toNat = s := by omega
        rw [show (e.sheet == (s : Int)) = true by simpa using hes]
        simp only [cond_true]
        rw [if_pos ⟨e1, by rw [h.l1]; omega⟩, ← e1, hat, come0_move]
        exact ⟨rfl, by omega, by omega⟩
      · rw [show (e.sheet == (s : Int)) = false by simpa using hes]
        simp only [cond_false]
        rw [if_neg (by omega)]
        exact ⟨rfl, k2, k3⟩
    · simp only [getD_set]
      rw [if_neg (by omega)]
      exact h.rest s hge
    · have hop := h.op a b ha hb2
      unfold openN at hop ⊢
      rw [openF_or hb (Nat.zero_le _) (by simpa using he), hop]
      have hl2 := h.l2
      have hfa : (e.frm == (a : Int)) = decide (e.frm.toNat = a) := by rw [Bool.eq_iff_iff]; simp; omega
      have htb : (e.to == (b : Int)) = decide (e.to.toNat = b) := by rw [Bool.eq_iff_iff]; simp; omega
      have hfb : (e.frm == (b : Int)) = decide (e.frm.toNat = b) := by rw [Bool.eq_iff_iff]; simp; omega
      have hta : (e.to == (a : Int)) = decide (e.to.toNat = a) := by rw [Bool.eq_iff_iff]; simp; omega
      simp only [openD, hfa, htb, hfb, hta]
      by_cases hk1 : e.kind = 1
      · have hk2 : (e.kind == 2) = false := by simp [hk1]
        have hk1' : (e.kind == 1) = true := by simp [hk1]
        simp only [hk1', hk2, cond_true, cond_false, Bool.true_and, Bool.false_and, getD_upd]
        congr 1
        by_cases hh : e.frm.toNat = a ∧ e.to.toNat = b
        · rw [if_pos (by omega)]; simp [hh.1, hh.2]
        · rw [if_neg (by omega)]
          have : (decide (e.frm.toNat = a) && decide (e.to.toNat = b)) = false := by simp; omega
          rw [this]; rfl
      · have hk1' : (e.kind == 1) = false := by simp [hk1]
        by_cases hk2 : e.kind = 2
        · have hk2' : (e.kind == 2) = true := by simp [hk2]
          simp only [hk1', hk2', cond_true, cond_false, Bool.true_and, Bool.false_and, getD_upd]
          congr 1
          by_cases hh : e.frm.toNat = b ∧ e.to.toNat = a
          · rw [if_pos (by omega)]; simp [hh.1, hh.2]
          · rw [if_neg (by omega)]
            have : (decide (e.frm.toNat = b) && decide (e.to.toNat = a)) = false := by simp; omega
            rw [this]; rfl
        · have hk2' : (e.kind == 2) = false := by simp [hk2]
          simp [hk1', hk2']
    · have hnn := h.nn
      by_cases hk2 : e.kind = 2
      · have hk1 : (e.kind == 1) = false := by simp [hk2]
        have hk2' : (e.kind == 2) = true := by simp [hk2]
        simp only [hk1, hk2', cond_true, cond_false, getD_upd]
        have := hnn j
        split
        · rename_i hj
          rw [hk2', Bool.true_and, Bool.or_eq_false_iff, decide_eq_false_iff_not, hj.1] at hc
          omega
        · omega
      · have hk2' : (e.kind == 2) = false := by simp [hk2]
        simp only [hk2', cond_false]
        cases e.kind == 1
        · exact hnn j
        · simp only [cond_true, getD_upd]
          have := hnn j
          split <;> omega

theorem day_ref {r : Reg} (v : Valid r) {day : Int} : ∀ (ts : List Int) (k : Nat) (es : List Ent5) (m : Nat) (st : RSt), r.entries.drop k = es → ts.length = es.length → OkS r m st → (∀ i : Nat, ts[i]? = some day → m.testBit (k + i) = false) →
    (dayF r day k ts m = none ∧ refDayF day es ts st = none) ∨ ∃ m' st', dayF r day k ts m = some m' ∧ refDayF day es ts st = some st' ∧ OkS r m' st' ∧ ∀ i, m'.testBit i = true ↔ (m.testBit i = true ∨ (k ≤ i ∧ ts[i - k]? = some day))
  | [], k, es, m, st, _, hl, ho, _ => by
    obtain rfl : es = [] := List.eq_nil_of_length_eq_zero (by simpa using hl.symm)
    exact .inr ⟨m, st, rfl, rfl, ho, fun i => by simp⟩
  | t :: ts, k, [], m, st, _, hl, ho, _ => by simp at hl
  | t :: ts, k, e :: es, m, st, hd, hl, ho, hf => by
    have he : r.entries[k]? = some e := by
      have h1 : (r.entries.drop k)[0]? = some e := by rw [hd]; rfl
      simpa using h1
    have hd' : r.entries.drop (k + 1) = es := by
      have h1 : (r.entries.drop k).drop 1 = es := by rw [hd]; rfl
      rw [List.drop_drop] at h1
      exact h1
    have hl' : ts.length = es.length := by simpa using hl
    simp only [dayF, refDayF]
    by_cases ht : t = day
    · subst ht
      have hfree := hf 0 rfl
      simp only [bne_self_eq_false, cond_false]
      have hcb : canB r k m = (refStep e st).isSome := by
        have : canB r k m = canE r k e m := by unfold canB; rw [he]
        rw [this]
        exact ho.can v he hfree
      rw [hcb]
      cases hs : refStep e st with
      | none => left; simp
      | some st' =>
        simp only [Option.isSome_some, Bool.not_true, cond_false]
        have hk := ho.step v he hfree hs
        rcases day_ref v ts (k + 1) es (m ||| 2 ^ k) st' hd' hl' hk (fun i hi => by
          rw [or_bit]
          have := hf (i + 1) (by simpa using hi)
          rw [show k + 1 + i = k + (i + 1) by omega, this]
          simp) with h | ⟨m', st'', h1, h2, h3, h4⟩
        · exact .inl h
        · refine .inr ⟨m', st'', h1, h2, h3, fun i => ?_⟩
          rw [h4, or_bit]
          simp only [Bool.or_eq_true, decide_eq_true_eq]
          by_cases e1 : k = i
          · subst e1; simp
          · by_cases e2 : k + 1 ≤ i
            · rw [show i - k = (i - (k + 1)) + 1 by omega]
              have e3 : k ≤ i := by omega
              simp [e1, e2, e3]
            · have e3 : ¬ k ≤ i := by omega
              simp [e1, e2, e3]
    · have hb : (t != day) = true := by simpa using ht
      simp only [hb, cond_true]
      rcases day_ref v ts (k + 1) es m st hd' hl' ho (fun i hi => by
          rw [show k + 1 + i = k + (i + 1) by omega]
          exact hf (i + 1) (by simpa using hi)) with h | ⟨m', st'', h1, h2, h3, h4⟩
      · exact .inl h
      · refine .inr ⟨m', st'', h1, h2, h3, fun i => ?_⟩
        rw [h4]
        by_cases e1 : k = i
        · subst e1
          have e3 : ¬ k + 1 ≤ k := by omega
          simp [ht, e3]
        · by_cases e2 : k + 1 ≤ i
          · rw [show i - k = (i - (k + 1)) + 1 by omega]
            have e3 : k ≤ i := by omega
            simp [e2, e3]
          · have e3 : ¬ k ≤ i := by omega
            simp [e2, e3]
theorem getD_splice {o l : List Int} {k n j : Nat} (hl : l.length = n) (hk : k + n ≤ o.length) : (splice o k n l).getD j 0 = if k ≤ j ∧ j < k + n then l.getD (j - k) 0 else o.getD j 0 := by
  unfold splice
  simp only [List.getD_eq_getElem?_getD]
  rw [← apply_ite (fun q : Option Int => q.getD 0)]
  congr 1
  rw [List.append_assoc, List.getElem?_append]
  have h1 : (o.take k).length = k := by rw [List.length_take]; omega
  rw [h1]
  by_cases h : j < k
  · rw [if_pos h, if_neg (by omega), List.getElem?_take, if_pos h]
  · rw [if_neg h, List.getElem?_append, hl]
    by_cases h2 : j - k < n
    · rw [if_pos h2, if_pos (by omega)]
    · rw [if_neg h2, if_neg (by omega), List.getElem?_drop]
      congr 1
      omega
theorem putDay_house {out : List Int} {day : Nat} {st : RSt} (hd : day < 10) (ho : out.length = 200) (h1 : st.1.length = 4) (h2 : st.2.length = 16) {j s : Nat} (hj : j < 10) (hs : s < 4) : houseAt (putDay out day st) j s = if j = day then st.1.getD s 0 else houseAt out j s := by
  unfold houseAt putDay
  rw [getD_splice h2 (by rw [splice_len (by omega) h1]; omega), if_neg (by omega), getD_splice h1 (by omega)]
  by_cases e : j = day
  · subst e
    rw [if_pos (by omega), if_pos rfl]
    congr 1
    omega
  · rw [if_neg (by omega), if_neg e]
theorem putDay_open {out : List Int} {day : Nat} {st : RSt} (hd : day < 10) (ho : out.length = 200) (h1 : st.1.length = 4) (h2 : st.2.length = 16) {j a b : Nat} (hj : j < 10) (ha : a < 4) (hb : b < 4) : openAt (putDay out day st) j a b = if j = day then st.2.getD (a * 4 + b) 0 else openAt out j a b := by
  unfold openAt putDay
  rw [getD_splice h2 (by rw [splice_len (by omega) h1]; omega)]
  by_cases e : j = day
  · subst e
    rw [if_pos (by omega), if_pos rfl]
    congr 1
    omega
  · rw [if_neg (by omega), if_neg e, getD_splice h1 (by omega), if_neg (by omega)]
/-- What a list of what has happened, and a record of the days, have to do with each other. -/
def Agrees (r : Reg) (t : List Int) (o : List Int) (n : Nat) (m : Nat) : Prop :=
  (∀ s, s < 4 → houseAt o n s = (placesA r m).getD s 0) ∧ (∀ a b : Nat, a < 4 → b < 4 → openAt o n a b = openN r m (a : Int) (b : Int) ∧ 0 ≤ openAt o n a b) ∧ (∀ s, s < r.start.length → 0 ≤ (placesA r m).getD s 0 ∧ (placesA r m).getD s 0 < r.houses) ∧ ∀ i, m.testBit i = true ↔ ∃ x, t[i]? = some x ∧ x ≤ (n : Int)
theorem playF_ref {r : Reg} (v : Valid r) {t : List Int} (hl : t.length = r.entries.length) : ∀ (cnt n d : Nat) (out : List Int) (st : RSt), n + cnt = 10 → OkS r d st → (∀ i, d.testBit i = true ↔ ∃ x, t[i]? = some x ∧ x < (n : Int)) → out.length = 200 →
    (playF r t cnt n d = none ∧ (refPlayF r t cnt n out st).2 = false) ∨ ∃ ds, playF r t cnt n d = some ds ∧ ds.length = cnt ∧ (refPlayF r t cnt n out st).2 = true ∧
      (∀ j, j < n → (∀ s, s < 4 → houseAt (refPlayF r t cnt n out st).1 j s = houseAt out j s) ∧ ∀ a b, a < 4 → b < 4 → openAt (refPlayF r t cnt n out st).1 j a b = openAt out j a b) ∧
      ∀ j, j < cnt → Agrees r t (refPlayF r t cnt n out st).1 (n + j) (ds.getD j 0)
  | 0, n, d, out, st, hn, ho, hb, hlen => .inr ⟨[], rfl, rfl, rfl, fun j _ => ⟨fun _ _ => rfl, fun _ _ _ _ => rfl⟩, fun j hj => by omega⟩
  | cnt + 1, n, d, out, st, hn, ho, hb, hlen => by
    have hday := day_ref v (day := (n : Int)) t 0 r.entries d st rfl hl ho (fun i hi => by
      rw [Nat.zero_add]
      cases hq : d.testBit i with
      | false => rfl
      | true =>
        obtain ⟨x, h1, h2⟩ := (hb i).1 hq
        rw [hi] at h1
        cases h1
        omega)
    simp only [playF, refPlayF]
    rcases hday with ⟨h1, h2⟩ | ⟨m', st', h1, h2, h3, h4⟩
    · rw [h1, h2]
      exact .inl ⟨rfl, rfl⟩
    · rw [h1, h2]
      simp only
      have hbits : ∀ i, m'.testBit i = true ↔ ∃ x, t[i]? = some x ∧ x < ((n + 1 : Nat) : Int) := fun i => by
        rw [h4, hb]
        simp only [Nat.zero_le, true_and, Nat.sub_zero]
        constructor
        · rintro (⟨x, k1, k2⟩ | h)
          · exact ⟨x, k1, by omega⟩
          · exact ⟨_, h, by omega⟩
        · rintro ⟨x, k1, k2⟩
          by_cases e : x = (n : Int)
          · subst e; exact .inr k1
          · exact .inl ⟨x, k1, by omega⟩
      have hlen' := putDay_len (out := out) (day := n) (st := st') (by omega) hlen h3.l1 h3.l2
      rcases playF_ref v hl cnt (n + 1) m' (putDay out n st') st' (by omega) h3 hbits hlen' with ⟨k1, k2⟩ | ⟨ds, k1, k2, k3, k4, k5⟩
      · rw [k1]; exact .inl ⟨rfl, k2⟩
      · rw [k1]
        refine .inr ⟨m' :: ds, rfl, by simp [k2], k3, fun j hj => ⟨fun s hs => ?_, fun a b ha hb2 => ?_⟩, fun j hj => ?_⟩
        · rw [(k4 j (by omega)).1 s hs, putDay_house (by omega) hlen h3.l1 h3.l2 (by omega) hs, if_neg (by omega)]
        · rw [(k4 j (by omega)).2 a b ha hb2, putDay_open (by omega) hlen h3.l1 h3.l2 (by omega) ha hb2, if_neg (by omega)]
        · cases j with
          | zero =>
            refine ⟨fun s hs => ?_, fun a b ha hb2 => ?_, fun s hs => ?_, fun i => ?_⟩
            · show houseAt _ n s = _
              rw [(k4 n (by omega)).1 s hs, putDay_house (by omega) hlen h3.l1 h3.l2 (by omega) hs, if_pos rfl]
              show _ = (placesA r m').getD s 0
              rw [h3.places v]
            · show openAt _ n a b = _ ∧ 0 ≤ openAt _ n a b
              rw [(k4 n (by omega)).2 a b ha hb2, putDay_open (by omega) hlen h3.l1 h3.l2 (by omega) ha hb2, if_pos rfl]
              exact ⟨(h3.op a b ha hb2).symm, h3.nn _⟩
            · show 0 ≤ (placesA r m').getD s 0 ∧ (placesA r m').getD s 0 < r.houses
              rw [h3.places v]
              exact (h3.pl s hs).2
            · show m'.testBit i = true ↔ _
              rw [hbits]
              exact ⟨fun ⟨x, h1, h2⟩ => ⟨x, h1, by omega⟩, fun ⟨x, h1, h2⟩ => ⟨x, h1, by omega⟩⟩
          | succ j =>
            have := k5 j (by omega)
            rw [show n + 1 + j = n + (j + 1) by omega] at this
            exact this
theorem datedF_get : ∀ {es : List Ent5} {ts : List Int} {i : Nat} {e : Ent5}, datedF es ts = true → es[i]? = some e → ∃ x, ts[i]? = some x ∧ e.lo ≤ x ∧ x ≤ e.hi
  | [], _, _, _, _, h => by simp at h
  | e :: es, [], _, _, h, _ => by simp [datedF] at h
  | e :: es, t :: ts, 0, e', h, he => by
    simp only [List.getElem?_cons_zero, Option.some.injEq] at he
    subst he
    simp only [datedF, Bool.and_eq_true, decide_eq_true_eq] at h
    exact ⟨t, rfl, h.1.1, h.1.2⟩
  | e :: es, t :: ts, i + 1, e', h, he => by
    simp only [datedF, Bool.and_eq_true] at h
    obtain ⟨x, h1, h2⟩ := datedF_get (es := es) (ts := ts) (i := i) h.2 (by simpa using he)
    exact ⟨x, by simpa using h1, h2⟩
theorem dated_day {r : Reg} (v : Valid r) {t : List Int} (h : datedF r.entries t = true) {i : Nat} {x : Int} (hx : t[i]? = some x) : 0 ≤ x ∧ x ≤ 9 := by
  have hlen := datedF_len h
  have hi := (List.getElem?_eq_some_iff.1 hx).1
  obtain ⟨e, he⟩ := ex_get (l := r.entries) (i := i) (by omega)
  obtain ⟨y, h1, h2, h3⟩ := datedF_get h he
  rw [hx] at h1
  cases h1
  have := v.en e (List.mem_of_getElem? he)
  omega
/-- The program's play and the reference's. -/
theorem play_ref {r : Reg} (v : Valid r) {t : List Int} (h : datedF r.entries t = true) :
    (playDays r t = none ∧ (refPlay r t).2 = false) ∨ ∃ ds, playDays r t = some ds ∧ ds.length = 10 ∧ (refPlay r t).2 = true ∧ ∀ n, n < 10 → Agrees r t (refPlay r t).1 n (ds.getD n 0) := by
  rcases playF_ref v (datedF_len h) 10 0 0 (List.replicate 200 0) (startA r r.start.length, List.replicate 16 0) rfl (OkS.start r v) (fun i => by
    simp only [Nat.zero_testBit, Bool.false_eq_true, false_iff]
    rintro ⟨x, h1, h2⟩
    have := dated_day v h h1
    omega) (List.length_replicate) with ⟨k1, k2⟩ | ⟨ds, k1, k2, k3, _, k5⟩
  · exact .inl ⟨k1, k2⟩
  · exact .inr ⟨ds, k1, k2, k3, fun n hn => by have := k5 n hn; rw [Nat.zero_add] at this; exact this⟩
end Go.Proofs.Ytnbmmopjkkofoaa
