/-
  Plain laws of layer 5: what is shown, what is left out, the first entry that contradicts. No condition: no statement of the seat is proved here.
-/
import Derived.Test.YtnbmmopjkkofoaaP3
namespace Go.Proofs.Ytnbmmopjkkofoaa
set_option linter.all false

/-- There is a truth. -/
def hasT (r : Reg) : Prop := goesB r 0 0 0 = true
theorem expl_full {r : Reg} (v : Valid r) (x : ExplX r) : (hasT r ∧ x.1.2 = 0 ∧ ∃ ds, Truth r x.1.1 ds) ∨ (¬ hasT r ∧ x.1.2 = 9 ∧ x.1.1 = []) := by
  have h0 := checkE_of v
  rcases x.2 with ⟨k, _⟩ | ⟨_, k, e⟩ | ⟨_, k, h, _, n, m, hp⟩
  · exact (k h0).elim
  · right
    rw [e]
    refine ⟨fun h => ?_, rfl, rfl⟩
    have h' : goesB r 0 0 0 = true := h
    rw [k] at h'
    cases h'
  · exact .inl ⟨k, h, truth_of_path v hp⟩
theorem expl_err {r : Reg} (v : Valid r) (x : ExplX r) : (x.1.2 = 0 ↔ hasT r) ∧ (x.1.2 = 9 ↔ ¬ hasT r) ∧ (x.1.2 = 0 ∨ x.1.2 = 9) := by
  rcases expl_full v x with ⟨h, e, _⟩ | ⟨h, e, _⟩
  · exact ⟨⟨fun _ => h, fun _ => e⟩, ⟨fun k => (by rw [e] at k; cases k), fun k => (k h).elim⟩, .inl e⟩
  · exact ⟨⟨fun k => (by rw [e] at k; cases k), fun k => (h k).elim⟩, ⟨fun _ => h, fun _ => e⟩, .inr e⟩
theorem first_go {r : Reg} : ∀ (k i : Nat), i + k = r.entries.length → hasT (prefR r i) → (firstGo r k i = (0, 7) ∧ hasT (prefR r r.entries.length)) ∨ ∃ j : Nat, firstGo r k i = ((j : Int), 0) ∧ j < r.entries.length ∧ hasT (prefR r j) ∧ ¬ hasT (prefR r (j + 1))
  | 0, i, h, hi => .inl ⟨rfl, by rw [← h, Nat.add_zero]; exact hi⟩
  | k + 1, i, h, hi => by
    simp only [firstGo]
    cases hg : goesB (prefR r (i + 1)) 0 0 0 with
    | true => exact first_go k (i + 1) (by omega) hg
    | false =>
      refine .inr ⟨i, rfl, by omega, hi, fun hh => ?_⟩
      have hh' : goesB (prefR r (i + 1)) 0 0 0 = true := hh
      rw [hg] at hh'
      cases hh'
theorem first_law {r : Reg} (v : Valid r) : (firstR r = (0, 7) ∧ hasT (prefR r r.entries.length)) ∨ ∃ j : Nat, firstR r = ((j : Int), 0) ∧ j < r.entries.length ∧ hasT (prefR r j) ∧ ¬ hasT (prefR r (j + 1)) := by
  have h0 := checkE_of v
  have : firstR r = firstGo r r.entries.length 0 := by unfold firstR; rw [if_neg (by simp [h0])]
  rw [this]
  exact first_go _ 0 (by omega) (goes_empty (r := prefR r 0) (by simp [prefR]) rfl 10 0 0 (by omega))
/-- An increasing list of numbers below S, from f on. -/
def Inc (f S : Nat) (m : List Int) : Prop := m.Pairwise (· < ·) ∧ ∀ x ∈ m, (f : Int) ≤ x ∧ x < (S : Int)
theorem Inc.tail {f S : Nat} {x : Int} {m : List Int} (h : Inc f S (x :: m)) : Inc (x.toNat + 1) S m := by
  obtain ⟨h1, h2⟩ := h
  rw [List.pairwise_cons] at h1
  refine ⟨h1.2, fun y hy => ?_⟩
  have k1 := h1.1 y hy
  have k2 := h2 y (List.mem_cons_of_mem _ hy)
  have k3 := h2 x List.mem_cons_self
  omega
theorem Inc.mono {f g S : Nat} {m : List Int} (h : Inc f S m) (hg : g ≤ f) : Inc g S m := ⟨h.1, fun x hx => by have := h.2 x hx; omega⟩
theorem before_cons {x y : Int} {a b : List Int} : beforeB (x :: a) (y :: b) = if x = y then beforeB a b else decide (x < y) := by
  by_cases h : x = y
  · simp [beforeB, h]
  · have : (x != y) = true := by simpa using h
    simp [beforeB, this, h]
/-- What the search finds. -/
def Finds (r : Reg) (S k : Nat) (out : List Int) (f : Nat) : Option (List Int) → Prop
  | some l => ∃ m, l = out ++ m ∧ m.length = k ∧ Inc f S m ∧ hasT (dropR r l) ∧ ∀ m', m'.length = k → Inc f S m' → beforeB m' m = true → ¬ hasT (dropR r (out ++ m'))
  | none => ∀ m', m'.length = k → Inc f S m' → ¬ hasT (dropR r (out ++ m'))
theorem leave_finds (r : Reg) (S : Nat) : ∀ (k : Nat) (out : List Int) (f : Nat), Finds r S k out f (leaveS r S k out f)
  | 0, out, f => by
    simp only [leaveS]
    cases hg : goesB (dropR r out) 0 0 0 with
    | true => exact ⟨[], by simp, rfl, ⟨List.Pairwise.nil, fun _ h => by cases h⟩, hg, fun m' hm _ hb => by
        rw [List.eq_nil_of_length_eq_zero hm] at hb
        cases hb⟩
    | false =>
      intro m' hm _ hh
      rw [List.eq_nil_of_length_eq_zero hm, List.append_nil] at hh
      have hh' : goesB (dropR r out) 0 0 0 = true := hh
      rw [hg] at hh'
      cases hh'
  | k + 1, out, f => by
    show Finds r S (k + 1) out f (leaveN r S k out f)
    obtain ⟨n, hn⟩ : ∃ n, n = S - f := ⟨_, rfl⟩
    induction n generalizing f with
    | zero =>
      rw [leaveN_end (by omega)]
      intro m' hm hi
      cases m' with
      | nil => cases hm
      | cons x m' => have := hi.2 x List.mem_cons_self; omega
    | succ n ih =>
      rw [leaveN_step (by omega)]
      have h1 := leave_finds r S k (out ++ [(f : Int)]) (f + 1)
      have h2 := ih (f + 1) (by omega)
      cases e1 : leaveS r S k (out ++ [(f : Int)]) (f + 1) with
      | some l =>
        rw [e1] at h1
        obtain ⟨m, q1, q2, q3, q4, q5⟩ := h1
        refine ⟨(f : Int) :: m, by rw [q1]; simp, by simp [q2], ⟨List.pairwise_cons.2 ⟨fun y hy => by have := q3.2 y hy; omega, q3.1⟩, fun y hy => ?_⟩, q4, fun m' hm hi hb => ?_⟩
        · rcases List.mem_cons.1 hy with rfl | hy
          · omega
          · have := q3.2 y hy; omega
        · cases m' with
          | nil => cases hm
          | cons x m' =>
            have hx := hi.2 x List.mem_cons_self
            rw [before_cons] at hb
            by_cases e : x = (f : Int)
            · rw [if_pos e] at hb
              subst e
              have := q5 m' (by simpa using hm) (hi.tail.mono (by omega)) hb
              simpa using this
            · rw [if_neg e] at hb
              simp at hb
              omega
      | none =>
        rw [e1] at h1
        have key : ∀ m', m'.length = k + 1 → Inc f S m' → (∃ m'', m' = (f : Int) :: m'' ∧ ¬ hasT (dropR r (out ++ m'))) ∨ Inc (f + 1) S m' := fun m' hm hi => by
          cases m' with
          | nil => cases hm
          | cons x m' =>
            have hx := hi.2 x List.mem_cons_self
            by_cases e : x = (f : Int)
            · subst e
              refine .inl ⟨m', rfl, ?_⟩
              have := h1 m' (by simpa using hm) (hi.tail.mono (by omega))
              simpa using this
            · refine .inr ⟨hi.1, fun y hy => ?_⟩
              have hy2 := hi.2 y hy
              rcases List.mem_cons.1 hy with rfl | hy
              · omega
              · have := (List.pairwise_cons.1 hi.1).1 y hy; omega
        show Finds r S (k + 1) out f (leaveN r S k out (f + 1))
        cases e2 : leaveN r S k out (f + 1) with
        | some l =>
          rw [e2] at h2
          obtain ⟨m, q1, q2, q3, q4, q5⟩ := h2
          refine ⟨m, q1, q2, q3.mono (by omega), q4, fun m' hm hi hb => ?_⟩
          rcases key m' hm hi with ⟨_, _, h⟩ | h
          · exact h
          · exact q5 m' hm h hb
        | none =>
          rw [e2] at h2
          intro m' hm hi
          rcases key m' hm hi with ⟨_, _, h⟩ | h
          · exact h
          · exact h2 m' hm h
theorem leave_go {r : Reg} : ∀ (c k : Nat), c + k = sumR r + 1 → (∀ j, j < k → leaveK r j = none) → ∃ j, j ≤ sumR r ∧ leaveK r j = some (leaveGo r c k) ∧ ∀ i, i < j → leaveK r i = none
  | 0, k, h, hn => by
    obtain ⟨l, hl⟩ := leaveK_some r
    rw [hn (sumR r) (by omega)] at hl
    cases hl
  | c + 1, k, h, hn => by
    simp only [leaveGo]
    cases e : leaveK r k with
    | some l => exact ⟨k, by omega, by rw [e], hn⟩
    | none =>
      refine leave_go c (k + 1) (by omega) fun j hj => ?_
      by_cases q : j = k
      · subst q; exact e
      · exact hn j (by omega)
/-- What Leave returns. -/
theorem leave_law {r : Reg} (v : Valid r) : (leaveR r).2 = 0 ∧ Inc 0 (sumR r) (leaveR r).1 ∧ hasT (dropR r (leaveR r).1) ∧ ∀ l, Inc 0 (sumR r) l → shorterB l (leaveR r).1 = true → ¬ hasT (dropR r l) := by
  have h0 := checkE_of v
  have e : leaveR r = (leaveGo r (sumR r + 1) 0, 0) := by unfold leaveR; rw [if_neg (by simp [h0])]
  rw [e]
  obtain ⟨j, hj, h1, h2⟩ := leave_go (r := r) (sumR r + 1) 0 (by omega) fun j hj => by omega
  have hf := leave_finds r (sumR r) j [] 0
  have h1' : leaveS r (sumR r) j [] 0 = some (leaveGo r (sumR r + 1) 0) := h1
  rw [h1'] at hf
  obtain ⟨m, q1, q2, q3, q4, q5⟩ := hf
  rw [List.nil_append] at q1
  refine ⟨rfl, by dsimp only; rw [q1]; exact q3, q4, fun l hl hs => ?_⟩
  dsimp only at hs
  rw [q1] at hs
  unfold shorterB at hs
  rw [q2] at hs
  simp only [Bool.or_eq_true, decide_eq_true_eq, Bool.and_eq_true, beq_iff_eq] at hs
  rcases hs with hs | ⟨hs, hb⟩
  · have hn := h2 l.length (by omega)
    have hf2 := leave_finds r (sumR r) l.length [] 0
    have hn' : leaveS r (sumR r) l.length [] 0 = none := hn
    rw [hn'] at hf2
    exact hf2 l rfl hl
  · exact q5 l (by omega) hl hb
theorem Inc.nil (f S : Nat) : Inc f S [] := ⟨List.Pairwise.nil, fun _ h => by cases h⟩
theorem dropF_nil {α : Type} : ∀ {k : Nat} {l : List α}, dropF [] k l = l
  | _, [] => rfl
  | k, x :: l => by
    show x :: dropF [] (k + 1) l = _
    rw [dropF_nil]
theorem dropR_nil (r : Reg) : dropR r [] = r := by
  unfold dropR
  rw [dropF_nil, dropF_nil]
theorem leave_nil {r : Reg} (v : Valid r) : (leaveR r).1 = [] ↔ hasT r := by
  obtain ⟨_, h1, h2, h3⟩ := leave_law v
  constructor
  · intro e
    rw [e, dropR_nil] at h2
    exact h2
  · intro h
    cases e : (leaveR r).1 with
    | nil => rfl
    | cons x l =>
      rw [e] at h3
      have := h3 [] (Inc.nil _ _) (by simp [shorterB])
      rw [dropR_nil] at this
      exact (this h).elim
/-- The set is no longer than any that leaves a truth. -/
theorem leave_short {r : Reg} (v : Valid r) {l : List Int} (hl : Inc 0 (sumR r) l) (h : hasT (dropR r l)) : (leaveR r).1.length ≤ l.length := by
  obtain ⟨_, h1, h2, h3⟩ := leave_law v
  by_cases e : l.length < (leaveR r).1.length
  · exact (h3 l hl (by simp [shorterB]; left; exact e) h).elim
  · omega
theorem dropF_keep {α : Type} {bits : Nat} {out : List Int} : ∀ {k : Nat} {l : List α}, (∀ j, k ≤ j → j < k + l.length → (out.any (fun n => (j : Int) == n) = bits.testBit j)) → dropF out k l = keepF bits k l
  | _, [], _ => rfl
  | k, x :: l, h => by
    have h1 := h k (Nat.le_refl _) (by simp)
    have h2 := dropF_keep (bits := bits) (out := out) (k := k + 1) (l := l) fun j h2 h3 => h j (by omega) (by simp only [List.length_cons]; omega)
    simp only [dropF, keepF, h1, h2]
theorem outB_mem {r : Reg} {b j : Nat} (hj : j < sumR r) : (outB r b).any (fun n => (j : Int) == n) = b.testBit j := by
  rw [Bool.eq_iff_iff, List.any_eq_true]
  unfold outB
  constructor
  · rintro ⟨x, hx, e⟩
    obtain ⟨i, hi, rfl⟩ := List.mem_map.1 hx
    rw [List.mem_filter] at hi
    have : (j : Int) = Int.ofNat i := by simpa using e
    have : (j : Int) = (i : Int) := this
    have : j = i := by omega
    subst this
    exact hi.2
  · intro h
    exact ⟨(j : Int), List.mem_map.2 ⟨j, List.mem_filter.2 ⟨List.mem_range.2 hj, h⟩, rfl⟩, by simp⟩
theorem dropR_out (r : Reg) (b : Nat) : dropR r (outB r b) = withoutR r b := by
  unfold dropR withoutR
  rw [dropF_keep (bits := b) fun j h1 h2 => outB_mem (by unfold sumR; omega), dropF_keep (bits := b) fun j h1 h2 => outB_mem (by unfold sumR; omega)]
theorem outB_inc (r : Reg) (b : Nat) : Inc 0 (sumR r) (outB r b) := by
  refine ⟨range_strict _ _, fun x hx => ?_⟩
  obtain ⟨i, hi, rfl⟩ := List.mem_map.1 hx
  have := List.mem_range.1 (List.mem_filter.1 hi).1
  unfold sumR
  show (0 : Int) ≤ (i : Int) ∧ (i : Int) < _
  omega
/-- The bits of a list. -/
def bitsL : List Int → Nat
  | [] => 0
  | x :: l => 2 ^ x.toNat ||| bitsL l
theorem bitsL_test {S : Nat} : ∀ {l : List Int}, (∀ x ∈ l, (0 : Int) ≤ x ∧ x < (S : Int)) → ∀ j : Nat, (bitsL l).testBit j = l.any fun n => (j : Int) == n
  | [], _, j => by simp [bitsL]
  | x :: l, h, j => by
    have hx := h x List.mem_cons_self
    rw [bitsL, Nat.testBit_or, Nat.testBit_two_pow, bitsL_test (S := S) fun y hy => h y (List.mem_cons_of_mem _ hy)]
    rw [List.any_cons]
    congr 1
    rw [Bool.eq_iff_iff]
    simp
    omega
theorem dropR_bits {r : Reg} {l : List Int} (h : Inc 0 (sumR r) l) : withoutR r (bitsL l) = dropR r l := by
  unfold dropR withoutR
  have hb := bitsL_test (S := sumR r) (l := l) fun x hx => by have := h.2 x hx; omega
  rw [dropF_keep (bits := bitsL l) fun j _ _ => (hb j).symm, dropF_keep (bits := bitsL l) fun j _ _ => (hb j).symm]
end Go.Proofs.Ytnbmmopjkkofoaa
