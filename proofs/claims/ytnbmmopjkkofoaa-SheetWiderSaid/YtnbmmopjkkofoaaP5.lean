/-
  Plain laws of layer 5: registers with fewer sights, wider days, weaker kinds; what can be in an evening. No condition: no statement of the seat is proved here.
-/
import Derived.Test.YtnbmmopjkkofoaaP4
import Derived.Test.YtnbmmopjkkofoaaW13
namespace Go.Proofs.Ytnbmmopjkkofoaa
set_option linter.all false

/-- Two lists, element by element. -/
def Pt {α β : Type} (R : α → β → Prop) : List α → List β → Prop
  | [], [] => True
  | a :: as', b :: bs => R a b ∧ Pt R as' bs
  | _, _ => False
theorem Pt.refl {α : Type} {R : α → α → Prop} (h : ∀ a, R a a) : ∀ l : List α, Pt R l l
  | [] => trivial
  | a :: l => ⟨h a, Pt.refl h l⟩
theorem Pt.imp {α β : Type} {R S : α → β → Prop} (h : ∀ a b, R a b → S a b) : ∀ {l : List α} {l' : List β}, Pt R l l' → Pt S l l'
  | [], [], _ => trivial
  | _ :: _, _ :: _, ⟨h1, h2⟩ => ⟨h _ _ h1, Pt.imp h h2⟩
  | [], _ :: _, h => h.elim
  | _ :: _, [], h => h.elim
theorem Pt.len {α β : Type} {R : α → β → Prop} : ∀ {l : List α} {l' : List β}, Pt R l l' → l'.length = l.length
  | [], [], _ => rfl
  | _ :: _, _ :: _, ⟨_, h⟩ => by simp [Pt.len h]
  | [], _ :: _, h => h.elim
  | _ :: _, [], h => h.elim
theorem Pt.get {α β : Type} {R : α → β → Prop} : ∀ {l : List α} {l' : List β} {i : Nat} {a : α}, Pt R l l' → l[i]? = some a → ∃ b, l'[i]? = some b ∧ R a b
  | [], [], _, _, _, h => by simp at h
  | a :: l, b :: l', 0, x, ⟨h1, _⟩, h => by
    simp only [List.getElem?_cons_zero, Option.some.injEq] at h
    subst h
    exact ⟨b, rfl, h1⟩
  | a :: l, b :: l', i + 1, x, ⟨_, h2⟩, h => Pt.get (i := i) h2 (by simpa using h)
  | [], _ :: _, _, _, h, _ => h.elim
  | _ :: _, [], _, _, h, _ => h.elim
theorem Pt.drop {α β : Type} {R : α → β → Prop} {out : List Int} : ∀ {k : Nat} {l : List α} {l' : List β}, Pt R l l' → Pt R (dropF out k l) (dropF out k l')
  | _, [], [], _ => trivial
  | k, a :: l, b :: l', ⟨h1, h2⟩ => by
    simp only [dropF]
    cases out.any (fun n => (k : Int) == n)
    · exact ⟨h1, Pt.drop h2⟩
    · exact Pt.drop h2
  | _, [], _ :: _, h => h.elim
  | _, _ :: _, [], h => h.elim
theorem Pt.map {α β γ : Type} {R : α → β → Prop} {f : γ → α} {g : γ → β} (h : ∀ c, R (f c) (g c)) : ∀ l : List γ, Pt R (l.map f) (l.map g)
  | [] => trivial
  | c :: l => ⟨h c, Pt.map h l⟩
theorem Pt.and {α β : Type} {R S : α → β → Prop} : ∀ {l : List α} {l' : List β}, Pt R l l' → Pt S l l' → Pt (fun a b => R a b ∧ S a b) l l'
  | [], [], _, _ => trivial
  | _ :: _, _ :: _, ⟨h1, h2⟩, ⟨k1, k2⟩ => ⟨⟨h1, k1⟩, Pt.and h2 k2⟩
  | [], _ :: _, h, _ => h.elim
  | _ :: _, [], h, _ => h.elim

def SameWay (e e' : Ent5) : Prop := e'.sheet = e.sheet ∧ e'.frm = e.frm ∧ e'.to = e.to
def Wide (e e' : Ent5) : Prop := e'.lo ≤ e.lo ∧ e.hi ≤ e'.hi
def SameKind (e e' : Ent5) : Prop := e'.kind = e.kind
/-- What is a truth of the first register is one of the second. -/
structure Loose (r x : Reg) : Prop where
  st : x.start = r.start
  way : Pt SameWay r.entries x.entries
  wide : Pt Wide r.entries x.entries
  kind : Pt SameKind r.entries x.entries ∨ ∀ e ∈ x.entries, e.kind ≠ 2
  si : ∀ s ∈ x.sights, s ∈ r.sights
theorem comeF_same {d : Nat} {s : Int} : ∀ {k : Nat} {es es' : List Ent5} {c : List Int}, Pt SameWay es es' → comeF d s k es' c = comeF d s k es c
  | _, [], [], _, _ => rfl
  | k, e :: es, e' :: es', c, ⟨⟨h1, h2, h3⟩, h⟩ => by
    simp only [comeF, h1, h2, h3]
    exact comeF_same h
  | _, [], _ :: _, _, h => h.elim
  | _, _ :: _, [], _, h => h.elim
theorem places_same {r x : Reg} (hs : x.start = r.start) (h : Pt SameWay r.entries x.entries) (m : Nat) : placesA x m = placesA r m := by
  unfold placesA placesL
  rw [hs]
  congr 1
  funext j
  unfold placeN placeOf
  rw [hs, comeF_same h]
theorem openF_same {d : Nat} {a b : Int} : ∀ {k : Nat} {es es' : List Ent5} {n : Int}, Pt SameWay es es' → Pt SameKind es es' → openF d a b k es' n = openF d a b k es n
  | _, [], [], _, _, _ => rfl
  | k, e :: es, e' :: es', c, ⟨⟨h1, h2, h3⟩, h⟩, ⟨q, hq⟩ => by
    have q' : e'.kind = e.kind := q
    simp only [openF, h2, h3, q']
    exact openF_same h hq
  | _, [], _ :: _, _, h, _ => h.elim
  | _, _ :: _, [], _, h, _ => h.elim
theorem open_same {r x : Reg} (h : Pt SameWay r.entries x.entries) (q : Pt SameKind r.entries x.entries) (m : Nat) (a b : Int) : openN x m a b = openN r m a b := openF_same h q
theorem Loose.can {r x : Reg} (h : Loose r x) {k m : Nat} (hc : canB r k m = true) : canB x k m = true := by
  unfold canB at hc ⊢
  cases he : r.entries[k]? with
  | none => rw [he] at hc; cases hc
  | some e =>
    rw [he] at hc
    obtain ⟨e', he', h1, h2, h3⟩ := h.way.get he
    rw [he']
    dsimp only at hc ⊢
    unfold canE at hc ⊢
    rw [places_same h.st h.way, h1, h2]
    simp only [Bool.and_eq_true, Bool.or_eq_true] at hc ⊢
    refine ⟨hc.1, ?_⟩
    rcases h.kind with q | q
    · obtain ⟨e2, he2, q2⟩ := q.get he
      rw [he'] at he2
      cases he2
      have q3 : e'.kind = e.kind := q2
      rw [q3, open_same h.way q, h3]
      exact hc.2
    · exact .inl (by simpa using q e' (List.mem_of_getElem? he'))
theorem Loose.day {r x : Reg} (h : Loose r x) {n : Int} : ∀ {ts : List Int} {k m m' : Nat}, dayF r n k ts m = some m' → dayF x n k ts m = some m'
  | [], _, _, _, hd => hd
  | t :: ts, k, m, m', hd => by
    simp only [dayF] at hd ⊢
    cases hb : t != n with
    | true => rw [hb] at hd; exact h.day hd
    | false =>
      rw [hb] at hd
      simp only [cond_false] at hd ⊢
      cases hc : canB r k m with
      | false => rw [hc] at hd; cases hd
      | true =>
        rw [hc] at hd
        rw [h.can hc]
        exact h.day hd
theorem Loose.play {r x : Reg} (h : Loose r x) {t : List Int} : ∀ {c n m : Nat} {ds : List Nat}, playF r t c n m = some ds → playF x t c n m = some ds
  | 0, _, _, _, hp => hp
  | c + 1, n, m, ds, hp => by
    rw [playF] at hp ⊢
    split at hp
    · cases hp
    · rename_i d1 h1
      split at hp
      · cases hp
      · rename_i ds1 h2
        cases hp
        rw [h.day h1]
        simp only
        rw [h.play h2]
theorem dated_wide : ∀ {es es' : List Ent5} {ts : List Int}, Pt Wide es es' → datedF es ts = true → datedF es' ts = true
  | [], [], ts, _, h => h
  | e :: es, e' :: es', [], _, h => by simp [datedF] at h
  | e :: es, e' :: es', t :: ts, ⟨⟨h1, h2⟩, h3⟩, h => by
    simp only [datedF, Bool.and_eq_true, decide_eq_true_eq] at h ⊢
    exact ⟨by omega, dated_wide h3 h.2⟩
  | [], _ :: _, _, h, _ => h.elim
  | _ :: _, [], _, h, _ => h.elim
theorem Loose.seen {r x : Reg} (h : Loose r x) : ∀ {n : Nat} {ds : List Nat}, seenAll r n ds = true → seenAll x n ds = true
  | _, [], _ => rfl
  | n, d :: ds, hs => by
    simp only [seenAll, Bool.and_eq_true] at hs ⊢
    rw [places_same h.st h.way]
    refine ⟨List.all_eq_true.2 fun s hs' => List.all_eq_true.1 hs.1 s (h.si s hs'), h.seen hs.2⟩
theorem Loose.truth {r x : Reg} (h : Loose r x) {t : List Int} {ds : List Nat} (T : Truth r t ds) : Truth x t ds :=
  ⟨dated_wide h.wide T.dated, h.play T.play, h.seen T.seen⟩
theorem Loose.has {r x : Reg} (h : Loose r x) (v : Valid r) (vx : Valid x) (H : hasT r) : hasT x := by
  obtain ⟨t, ds, T⟩ := (goes_truth v).1 H
  exact (goes_truth vx).2 ⟨t, ds, h.truth T⟩
/-- What can have happened at the end of a day. -/
def Eve (r : Reg) (N m : Nat) : Prop := Rch r N N r.entries.length m
theorem Loose.eve {r x : Reg} (h : Loose r x) (v : Valid r) (vx : Valid x) {N m : Nat} (hN : N ≤ 9) (H : Eve r N m) : Eve x N m := by
  obtain ⟨t, ds, T, hd⟩ := (rch_truth v hN).1 H
  exact (rch_truth vx hN).2 ⟨t, ds, h.truth T, hd⟩
theorem Loose.drop {r x : Reg} (h : Loose r x) (hs : x.sights = r.sights) (out : List Int) : Loose (dropR r out) (dropR x out) where
  st := h.st
  way := h.way.drop
  wide := h.wide.drop
  kind := by
    rcases h.kind with q | q
    · exact .inl q.drop
    · exact .inr fun e he => q e (dropF_sub he)
  si := fun s hs' => by
    show s ∈ dropF out r.entries.length r.sights
    have : s ∈ dropF out x.entries.length x.sights := hs'
    rw [h.way.len, hs] at this
    exact this
theorem wider_leave {r x : Reg} (h : Loose r x) (hs : x.sights = r.sights) (v : Valid r) (vx : Valid x) : (leaveR x).1.length ≤ (leaveR r).1.length := by
  obtain ⟨_, h1, h2, _⟩ := leave_law v
  have e : sumR x = sumR r := by unfold sumR; rw [h.way.len, hs]
  exact leave_short vx (by rw [e]; exact h1) ((h.drop hs _).has (valid_drop v _) (valid_drop vx _) h2)
/-- One more sight. -/
theorem loose_seeing (r : Reg) (s : Sight5) : Loose (seeingR r s) r :=
  ⟨rfl, Pt.refl (fun _ => ⟨rfl, rfl, rfl⟩) _, Pt.refl (fun _ => ⟨Int.le_refl _, Int.le_refl _⟩) _, .inl (Pt.refl (R := SameKind) (fun _ => rfl) _), fun x hx => List.mem_append_left _ hx⟩
theorem dropF_cong {α : Type} {o o' : List Int} : ∀ {k : Nat} {l : List α}, (∀ j, k ≤ j → j < k + l.length → (o.any (fun n => (j : Int) == n) = o'.any (fun n => (j : Int) == n))) → dropF o k l = dropF o' k l
  | _, [], _ => rfl
  | k, x :: l, h => by
    have h1 := h k (Nat.le_refl _) (by simp)
    have h2 := dropF_cong (o := o) (o' := o') (k := k + 1) (l := l) fun j h2 h3 => h j (by omega) (by simp only [List.length_cons]; omega)
    simp only [dropF, h1, h2]
theorem Inc.filter {f S S' : Nat} {m : List Int} {p : Int → Bool} (h : Inc f S m) (hp : ∀ x ∈ m, p x = true → x < (S' : Int)) : Inc f S' (m.filter p) :=
  ⟨h.1.filter p, fun x hx => by
    rw [List.mem_filter] at hx
    exact ⟨(h.2 x hx.1).1, hp x hx.1 hx.2⟩⟩
theorem more_leave {r : Reg} {s : Sight5} (v : Valid r) (vx : Valid (seeingR r s)) : (leaveR r).1.length ≤ (leaveR (seeingR r s)).1.length ∧ (leaveR (seeingR r s)).1.length ≤ (leaveR r).1.length + 1 := by
  have e : sumR (seeingR r s) = sumR r + 1 := by simp [sumR, seeingR]; omega
  constructor
  · obtain ⟨_, h1, h2, _⟩ := leave_law vx
    obtain ⟨b, hb⟩ : ∃ b, (leaveR (seeingR r s)).1 = b := ⟨_, rfl⟩
    rw [hb] at h1 h2 ⊢
    rw [e] at h1
    have hf : ∀ j : Nat, j < sumR r → ((b.filter fun n => n != (sumR r : Int)).any (fun n => (j : Int) == n)) = b.any (fun n => (j : Int) == n) := fun j hj => by
      rw [Bool.eq_iff_iff, List.any_eq_true, List.any_eq_true]
      constructor
      · rintro ⟨x, hx, hx2⟩
        exact ⟨x, (List.mem_filter.1 hx).1, hx2⟩
      · rintro ⟨x, hx, hx2⟩
        refine ⟨x, List.mem_filter.2 ⟨hx, ?_⟩, hx2⟩
        simp at hx2 ⊢
        omega
    have hd : Loose (dropR (seeingR r s) b) (dropR r (b.filter fun n => n != (sumR r : Int))) := by
      have e1 : dropF (b.filter fun n => n != (sumR r : Int)) 0 r.entries = dropF b 0 r.entries := dropF_cong fun j _ h => hf j (by unfold sumR; omega)
      have e2 : dropF (b.filter fun n => n != (sumR r : Int)) r.entries.length r.sights = dropF b r.entries.length r.sights := dropF_cong fun j _ h => hf j (by unfold sumR; omega)
      refine ⟨rfl, ?_, ?_, .inl ?_, fun x hx => ?_⟩
      · show Pt SameWay (dropF b 0 r.entries) _
        rw [← e1]
        exact Pt.refl (fun _ => ⟨rfl, rfl, rfl⟩) _
      · show Pt Wide (dropF b 0 r.entries) _
        rw [← e1]
        exact Pt.refl (fun _ => ⟨Int.le_refl _, Int.le_refl _⟩) _
      · show Pt SameKind (dropF b 0 r.entries) _
        rw [← e1]
        exact Pt.refl (R := SameKind) (fun _ => rfl) _
      · show x ∈ dropF b r.entries.length (r.sights ++ [s])
        rw [dropF_append, ← e2]
        exact List.mem_append_left _ hx
    have hl := leave_short v (l := b.filter fun n => n != (sumR r : Int)) (h1.filter fun x hx hp => by
      have := h1.2 x hx
      simp at hp
      omega) (hd.has (valid_drop vx _) (valid_drop v _) h2)
    exact Nat.le_trans hl (List.length_filter_le _ _)
  · obtain ⟨_, h1, h2, _⟩ := leave_law v
    obtain ⟨a, ha⟩ : ∃ a, (leaveR r).1 = a := ⟨_, rfl⟩
    rw [ha] at h1 h2 ⊢
    have hf : ∀ j : Nat, j < sumR r → ((a ++ [(sumR r : Int)]).any (fun n => (j : Int) == n)) = a.any (fun n => (j : Int) == n) := fun j hj => by
      have : ((j : Int) == (sumR r : Int)) = false := by simp; omega
      simp [this]
    have hd : dropR (seeingR r s) (a ++ [(sumR r : Int)]) = dropR r a := by
      have e1 : dropF (a ++ [(sumR r : Int)]) 0 r.entries = dropF a 0 r.entries := dropF_cong fun j _ h => hf j (by unfold sumR; omega)
      have e2 : dropF (a ++ [(sumR r : Int)]) r.entries.length r.sights = dropF a r.entries.length r.sights := dropF_cong fun j _ h => hf j (by unfold sumR; omega)
      unfold dropR seeingR
      dsimp only
      rw [dropF_append, e1, e2]
      have : ((a ++ [(sumR r : Int)]).any fun n => ((r.entries.length + r.sights.length : Nat) : Int) == n) = true := by
        rw [List.any_eq_true]
        exact ⟨(sumR r : Int), by simp, by simp [sumR]⟩
      rw [this]
      simp
    have := leave_short vx (l := a ++ [(sumR r : Int)]) (by
      rw [e]
      refine ⟨List.pairwise_append.2 ⟨h1.1, by simp, fun x hx y hy => ?_⟩, fun x hx => ?_⟩
      · rw [List.mem_singleton] at hy
        subst hy
        exact (h1.2 x hx).2
      · rcases List.mem_append.1 hx with hx | hx
        · have := h1.2 x hx; omega
        · rw [List.mem_singleton] at hx; omega) (by rw [hd]; exact h2)
    simpa using this
theorem hold_mem {r : Reg} {N s : Nat} {out : List Nat} (h : EvOK r N out) {x : Int} : x ∈ holdR r (s : Nat) out ↔ ∃ m, Eve r N m ∧ (placesA r m).getD s 0 = x := by
  unfold holdR
  obtain ⟨k1, k2⟩ := sort_sorted (holdL r out (s : Int).toNat)
  obtain ⟨_, q2⟩ := comp_sorted k1
  rw [q2, k2]
  unfold holdL
  rw [List.mem_map]
  constructor
  · rintro ⟨m, hm, e⟩
    exact ⟨m, (h.1 m).1 hm, e⟩
  · rintro ⟨m, hm, e⟩
    exact ⟨m, (h.1 m).2 hm, e⟩
theorem held_rng {r : Reg} {N : Nat} {a : Int} {out : List Nat} (h : EvOK r N out) (hne : out ≠ []) : (∀ m, Eve r N m → (heldR r a out).1 ≤ (heldN r m a : Int) ∧ (heldN r m a : Int) ≤ (heldR r a out).2) ∧ (∃ m, Eve r N m ∧ (heldR r a out).1 = (heldN r m a : Int)) ∧ ∃ m, Eve r N m ∧ (heldR r a out).2 = (heldN r m a : Int) := by
  cases out with
  | nil => exact (hne rfl).elim
  | cons d0 l =>
    have hm : ∀ y, y ∈ (heldN r d0 a : Int) :: l.map (fun d => (heldN r d a : Int)) ↔ ∃ m, Eve r N m ∧ (heldN r m a : Int) = y := fun y => by
      rw [← List.map_cons (f := fun d => (heldN r d a : Int)), List.mem_map]
      constructor
      · rintro ⟨m, hm, e⟩; exact ⟨m, (h.1 m).1 hm, e⟩
      · rintro ⟨m, hm, e⟩; exact ⟨m, (h.1 m).2 hm, e⟩
    unfold heldR
    refine ⟨fun m he => ⟨minL_le _ ((hm _).2 ⟨m, he, rfl⟩), maxL_ge _ ((hm _).2 ⟨m, he, rfl⟩)⟩, ?_, ?_⟩
    · obtain ⟨m, h1, h2⟩ := (hm _).1 (minL_mem (x := (heldN r d0 a : Int)) (l := l.map fun d => (heldN r d a : Int)))
      exact ⟨m, h1, h2.symm⟩
    · obtain ⟨m, h1, h2⟩ := (hm _).1 (maxL_mem (x := (heldN r d0 a : Int)) (l := l.map fun d => (heldN r d a : Int)))
      exact ⟨m, h1, h2.symm⟩
theorem owed_rng {r : Reg} {N : Nat} {a b : Int} {out : List Nat} (h : EvOK r N out) (hne : out ≠ []) : (∀ m, Eve r N m → (owedR r a b out).1 ≤ openN r m a b ∧ openN r m a b ≤ (owedR r a b out).2) ∧ (∃ m, Eve r N m ∧ (owedR r a b out).1 = openN r m a b) ∧ ∃ m, Eve r N m ∧ (owedR r a b out).2 = openN r m a b := by
  cases out with
  | nil => exact (hne rfl).elim
  | cons d0 l =>
    have hm : ∀ y, y ∈ openN r d0 a b :: l.map (fun d => openN r d a b) ↔ ∃ m, Eve r N m ∧ openN r m a b = y := fun y => by
      rw [← List.map_cons (f := fun d => openN r d a b), List.mem_map]
      constructor
      · rintro ⟨m, hm, e⟩; exact ⟨m, (h.1 m).1 hm, e⟩
      · rintro ⟨m, hm, e⟩; exact ⟨m, (h.1 m).2 hm, e⟩
    unfold owedR
    refine ⟨fun m he => ⟨minL_le _ ((hm _).2 ⟨m, he, rfl⟩), maxL_ge _ ((hm _).2 ⟨m, he, rfl⟩)⟩, ?_, ?_⟩
    · obtain ⟨m, h1, h2⟩ := (hm _).1 (minL_mem (x := openN r d0 a b) (l := l.map fun d => openN r d a b))
      exact ⟨m, h1, h2.symm⟩
    · obtain ⟨m, h1, h2⟩ := (hm _).1 (maxL_mem (x := openN r d0 a b) (l := l.map fun d => openN r d a b))
      exact ⟨m, h1, h2.symm⟩
/-- The first register allows no more on a day than the second. -/
structure Nar (x r : Reg) (N : Nat) : Prop where
  vx : Valid x
  v : Valid r
  hx : hasT x
  h : hasT r
  eve : ∀ m, Eve x N m → Eve r N m
  pl : ∀ m, placesA x m = placesA r m
  op : ∀ m a b, openN x m a b = openN r m a b
  st : x.start = r.start
  ho : x.houses = r.houses
theorem nar_of {x r : Reg} {N : Nat} (hN : N ≤ 9) (vx : Valid x) (v : Valid r) (hx : hasT x) (h : Loose x r) (q : Pt SameKind x.entries r.entries) (ho : x.houses = r.houses) : Nar x r N :=
  ⟨vx, v, hx, h.has vx v hx, fun m hm => h.eve vx v hN hm, fun m => (places_same h.st h.way m).symm, fun m a b => (open_same h.way q m a b).symm, h.st.symm, ho⟩
theorem all_of {r : Reg} (v : Valid r) (h : hasT r) : allDays r ≠ [] := (goes_all_iff v).1 h
theorem wantE_0 {r : Reg} {is : Bool} {N : Int} (v : Valid r) (h : hasT r) (hi : is = true) (hN : 0 ≤ N ∧ N ≤ 9) : ∀ {out : List Nat} {e : Int}, AskP r is N out e → e = 0 ∧ EvOK r N.toNat out ∧ out ≠ [] := fun {out e} hk => by
  obtain ⟨n, rfl⟩ : ∃ n : Nat, N = n := ⟨N.toNat, by omega⟩
  obtain ⟨h1, h2⟩ := ask_ok v hi (by omega) hk
  rw [if_neg (all_of v h)] at h2
  exact ⟨h2, by simpa using h1, fun e0 => all_of v h ((ev_nil v (by omega) h1).1 e0)⟩
end Go.Proofs.Ytnbmmopjkkofoaa
