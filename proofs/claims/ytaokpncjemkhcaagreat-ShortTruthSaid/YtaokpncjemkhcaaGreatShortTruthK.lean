/-
  A part of the proof that contangolaw.ShortTruth returns true: what the last text needs, and no more. No condition: no statement of the seat is proved here.
-/
import Derived.Laws.StructEq
import Derived.Test.YtaokpncjemkhcaaGreatChecked
import Derived.Test.YtaokpncjemkhcaaGreatShortTruthJ
namespace Go.Proofs.YtaokpncjemkhcaaGreat
set_option linter.all false
/-- There is a truth. -/
def hasT (r : Reg) : Prop := goesB r 0 0 0 = true
theorem expl_full {r : Reg} (v : Valid r) (x : ExplX r) : (hasT r ∧ x.1.2 = 0 ∧ ∃ ds, Truth r x.1.1 ds) ∨ (¬ hasT r ∧ x.1.2 = 9 ∧ x.1.1 = []) := by
  have h0 := zBI v
  rcases x.2 with ⟨k, _⟩ | ⟨_, k, e⟩ | ⟨_, k, h, _, n, m, hp⟩
  · exact (k h0).elim
  · right
    rw [e]
    refine ⟨fun h => ?_, rfl, rfl⟩
    have h' : goesB r 0 0 0 = true := h
    rw [k] at h'
    cases h'
  · exact .inl ⟨k, h, zAG v hp⟩
theorem expl_err {r : Reg} (v : Valid r) (x : ExplX r) : (x.1.2 = 0 ↔ hasT r) ∧ (x.1.2 = 9 ↔ ¬ hasT r) ∧ (x.1.2 = 0 ∨ x.1.2 = 9) := by
  rcases expl_full v x with ⟨h, e, _⟩ | ⟨h, e, _⟩
  · exact ⟨⟨fun _ => h, fun _ => e⟩, ⟨fun k => (by rw [e] at k; cases k), fun k => (k h).elim⟩, .inl e⟩
  · exact ⟨⟨fun k => (by rw [e] at k; cases k), fun k => (h k).elim⟩, ⟨fun _ => h, fun _ => e⟩, .inr e⟩
end Go.Proofs.YtaokpncjemkhcaaGreat
namespace Go.Proofs.YtaokpncjemkhcaaGreat
set_option linter.all false
/-- Two lists, element by element. -/
def Pt {α β : Type} (R : α → β → Prop) : List α → List β → Prop
  | [], [] => True
  | a :: as', b :: bs => R a b ∧ Pt R as' bs
  | _, _ => False
theorem Pt.refl {α : Type} {R : α → α → Prop} (h : ∀ a, R a a) : ∀ l : List α, Pt R l l
  | [] => trivial
  | a :: l => ⟨h a, Pt.refl h l⟩
def SameWay (e e' : Ent5) : Prop := e'.sheet = e.sheet ∧ e'.frm = e.frm ∧ e'.to = e.to
def Wide (e e' : Ent5) : Prop := e'.lo ≤ e.lo ∧ e.hi ≤ e'.hi
def SameKind (e e' : Ent5) : Prop := e'.kind = e.kind
/-- What is a truth of the first register is one of the second. -/
structure Loose (r x : Reg) : Prop where
  st : x.start = r.start
  way : Pt SameWay r.entries x.entries
  wide : Pt Wide r.entries x.entries
  kind : Pt SameKind r.entries x.entries ∨ ∀ e ∈ x.entries, e.kind ≠ 2
  si : ∀ s ∈ x.sights, s ∈ r.sights
/-- What can have happened at the end of a day. -/
def Eve (r : Reg) (N m : Nat) : Prop := Rch r N N r.entries.length m
/-- The first register allows no more on a day than the second. -/
structure Nar (x r : Reg) (N : Nat) : Prop where
  vx : Valid x
  v : Valid r
  hx : hasT x
  h : hasT r
  eve : ∀ m, Eve x N m → Eve r N m
  pl : ∀ m, placesA x m = placesA r m
  op : ∀ m a b, openN x m a b = openN r m a b
  st : x.start = r.start
  ho : x.houses = r.houses
end Go.Proofs.YtaokpncjemkhcaaGreat
namespace Go.Proofs.YtaokpncjemkhcaaGreat
open Go.RowKit
set_option maxRecDepth 20000
set_option linter.all false
theorem modN {a b : Nat} (hb : 0 < b) : ((a : Int).tmod (b : Int)) = ((a % b : Nat) : Int) := by
  rw [Int.tmod_eq_emod_of_nonneg (by omega)]; rfl
end Go.Proofs.YtaokpncjemkhcaaGreat
namespace Go.Proofs.YtaokpncjemkhcaaGreat
open Go.RowKit
set_option maxRecDepth 20000
set_option linter.all false
theorem vec0 (b sz : Nat) : VecV (.slice (some ⟨b, 0, none⟩) 0 0) sz [] := .inr ⟨b, 0, 0, rfl, Nat.le_refl _, Nat.zero_le _, by simp⟩
theorem quoN {a b : Nat} (ha : a ≤ 9223372036854775807) (hb : 0 < b) : IntKind.i64.wrap ((a : Int).tdiv (b : Int)) = ((a / b : Nat) : Int) := by
  rw [Int.tdiv_eq_ediv_of_nonneg (by omega)]
  have : ((a : Int) / (b : Int)) = ((a / b : Nat) : Int) := by simp
  rw [this]
  have h := Nat.div_le_self a b
  generalize a / b = c at *
  exact i64w (by omega) rfl
end Go.Proofs.YtaokpncjemkhcaaGreat
namespace Go.Proofs.YtaokpncjemkhcaaGreat
set_option linter.all false
/-- Entries happen one after the other. -/
def seqStep : List Ent5 → RSt → Option RSt
  | [], st => some st
  | e :: es, st => match refStep e st with
    | none => none
    | some st' => seqStep es st'
theorem kD : ∀ {a b : List Ent5} {st : RSt}, seqStep (a ++ b) st = (seqStep a st).bind (seqStep b)
  | [], b, st => rfl
  | e :: a, b, st => by
    simp only [List.cons_append, seqStep]
    cases refStep e st with
    | none => rfl
    | some st' => exact kD
def geF (n : Int) : List Ent5 → List Int → List Ent5
  | e :: es, t :: ts => if n ≤ t then e :: geF n es ts else geF n es ts
  | _, _ => []
def eqF (n : Int) : List Ent5 → List Int → List Ent5
  | e :: es, t :: ts => if t = n then e :: eqF n es ts else eqF n es ts
  | _, _ => []
theorem zCJ {day : Int} : ∀ {es : List Ent5} {ts : List Int} {st : RSt}, ts.length = es.length → refDayF day es ts st = seqStep (eqF day es ts) st
  | [], _, _, _ => rfl
  | _ :: _, [], _, h => by simp at h
  | e :: es, t :: ts, st, h => by
    simp only [refDayF, eqF]
    by_cases ht : t = day
    · have : (t != day) = false := by simpa using ht
      rw [this, if_pos ht]
      simp only [cond_false, seqStep]
      cases refStep e st with
      | none => rfl
      | some st' => exact zCJ (by simpa using h)
    · have : (t != day) = true := by simpa using ht
      rw [this, if_neg ht]
      exact zCJ (by simpa using h)
theorem zEW {n : Int} : ∀ {es : List Ent5} {ts : List Int}, ts.length = es.length → (∀ t ∈ ts, n ≤ t) → geF n es ts = es
  | [], ts, _, _ => by cases ts <;> rfl
  | _ :: _, [], h, _ => by simp at h
  | e :: es, t :: ts, hl, h => by
    simp only [geF]
    rw [if_pos (h t List.mem_cons_self), zEW (by simpa using hl) fun x hx => h x (List.mem_cons_of_mem _ hx)]
theorem zFK {n : Int} : ∀ {es : List Ent5} {ts : List Int}, (∀ t ∈ ts, n < t) → eqF n es ts = []
  | [], ts, _ => by cases ts <;> rfl
  | _ :: _, [], _ => rfl
  | e :: es, t :: ts, h => by
    have := h t List.mem_cons_self
    simp only [eqF]
    rw [if_neg (by omega)]
    exact zFK fun x hx => h x (List.mem_cons_of_mem _ hx)
theorem zDs {n : Int} : ∀ {es : List Ent5} {ts : List Int}, ts.Pairwise (· ≤ ·) → geF n es ts = eqF n es ts ++ geF (n + 1) es ts
  | [], ts, _ => by cases ts <;> rfl
  | _ :: _, [], _ => rfl
  | e :: es, t :: ts, h => by
    rw [List.pairwise_cons] at h
    have ih := zDs (n := n) (es := es) h.2
    simp only [geF, eqF]
    by_cases h1 : t = n
    · rw [if_pos (by omega), if_pos h1, if_neg (by omega), ih]; rfl
    · by_cases h2 : n ≤ t
      · rw [if_pos h2, if_neg h1, if_pos (by omega), ih, zFK fun x hx => by have := h.1 x hx; omega]; rfl
      · rw [if_neg h2, if_neg h1, if_neg (by omega), ih]
theorem zDY {r : Reg} {t : List Int} (hl : t.length = r.entries.length) (hs : t.Pairwise (· ≤ ·)) : ∀ (cnt n : Nat) (out : List Int) (st : RSt), (∃ st', seqStep (geF (n : Int) r.entries t) st = some st') → (refPlayF r t cnt n out st).2 = true
  | 0, _, _, _, _ => rfl
  | cnt + 1, n, out, st, ⟨st', h⟩ => by
    rw [zDs hs, kD, ← zCJ hl] at h
    simp only [refPlayF]
    cases hd : refDayF (n : Int) r.entries t st with
    | none => rw [hd] at h; cases h
    | some st1 =>
      rw [hd] at h
      exact zDY hl hs cnt (n + 1) _ _ ⟨st', by rw [show ((n + 1 : Nat) : Int) = (n : Int) + 1 by omega]; exact h⟩
/-- What has truly happened so far. -/
structure Hap (houses : Int) (start : List Int) (k day : Nat) (now open_ : List Int) (es : List Ent5) (ts : List Int) : Prop where
  nl : now.length = start.length
  ol : open_.length = 16
  el : es.length ≤ k
  tl : ts.length = es.length
  so : ts.Pairwise (· ≤ ·)
  td : ∀ t ∈ ts, 0 ≤ t ∧ t ≤ (day : Int) ∧ t ≤ 9
  da : datedF es ts = true
  en : ∀ e ∈ es, 0 ≤ e.kind ∧ e.kind ≤ 2 ∧ 0 ≤ e.sheet ∧ e.sheet ≤ (start.length : Int) - 1 ∧ 0 ≤ e.frm ∧ e.frm ≤ houses - 1 ∧ 0 ≤ e.to ∧ e.to ≤ houses - 1 ∧ e.frm ≠ e.to ∧ 0 ≤ e.lo ∧ e.lo ≤ e.hi ∧ e.hi ≤ 9
  nb : ∀ h ∈ now, 0 ≤ h ∧ h ≤ houses - 1
  ob : ∀ z ∈ open_, -(k : Int) ≤ z ∧ z ≤ (k : Int)
  st : seqStep es (start ++ List.replicate (4 - start.length) 0, List.replicate 16 0) = some (now ++ List.replicate (4 - start.length) 0, open_)
theorem zBi : ∀ {es : List Ent5} {ts : List Int} {e : Ent5} {t : Int}, datedF es ts = true → e.lo ≤ t → t ≤ e.hi → datedF (es ++ [e]) (ts ++ [t]) = true
  | [], [], e, t, _, h1, h2 => by simp [datedF, h1, h2]
  | [], _ :: _, _, _, h, _, _ => by simp [datedF] at h
  | _ :: _, [], _, _, h, _, _ => by simp [datedF] at h
  | e :: es, t :: ts, e', t', h, h1, h2 => by
    simp only [datedF, Bool.and_eq_true, List.cons_append] at h ⊢
    exact ⟨h.1, zBi h.2 h1 h2⟩
theorem Hap.start {houses : Int} {st : List Int} (h : ∀ x ∈ st, 0 ≤ x ∧ x ≤ houses - 1) : Hap houses st 0 0 st (List.replicate 16 0) [] [] :=
  ⟨rfl, by simp, Nat.le_refl _, rfl, List.Pairwise.nil, fun _ h => (by cases h), rfl, fun _ h => (by cases h), h, fun z hz => (by rw [List.eq_of_mem_replicate hz]; simp), rfl⟩
theorem Hap.idle {houses : Int} {st now open_ : List Int} {k day day' : Nat} {es : List Ent5} {ts : List Int} (h : Hap houses st k day now open_ es ts) (hd : day ≤ day') : Hap houses st k day' now open_ es ts :=
  { h with td := fun t ht => by have := h.td t ht; omega }
theorem zFz {l : List Int} {i : Nat} {x z : Int} (h : z ∈ upd l i x) : z ∈ l ∨ ∃ y, (y ∈ l ∨ y = 0) ∧ z = y + x := by
  unfold upd at h
  rcases List.mem_or_eq_of_mem_set h with h | h
  · exact .inl h
  · refine .inr ⟨l.getD i 0, ?_, h⟩
    by_cases hi : i < l.length
    · left
      rw [List.getD_eq_getElem?_getD, List.getElem?_eq_getElem hi]
      exact List.getElem_mem hi
    · right
      exact zFw (by omega)
theorem Hap.step {houses : Int} {st now open_ open2 : List Int} {k day : Nat} {es : List Ent5} {ts : List Int} {kind to lo hi : Int} {s : Nat} (h : Hap houses st k day now open_ es ts) (hd : day ≤ 9) (hs : s < st.length) (h4 : st.length ≤ 4)
    (hto : 0 ≤ to ∧ to ≤ houses - 1) (hne : now.getD s 0 ≠ to) (hlo : 0 ≤ lo ∧ lo ≤ (day : Int)) (hhi : (day : Int) ≤ hi ∧ hi ≤ 9)
    (hk : (kind = 2 ∧ 0 < open_.getD (to.toNat * 4 + (now.getD s 0).toNat) 0 ∧ open2 = upd open_ (to.toNat * 4 + (now.getD s 0).toNat) (-1)) ∨ (kind = 1 ∧ open2 = upd open_ ((now.getD s 0).toNat * 4 + to.toNat) 1) ∨ (kind = 0 ∧ open2 = open_)) :
    Hap houses st (k + 1) day (now.set s to) open2 (es ++ [⟨kind, (s : Int), now.getD s 0, to, lo, hi⟩]) (ts ++ [(day : Int)]) := by
  have hfr : 0 ≤ now.getD s 0 ∧ now.getD s 0 ≤ houses - 1 := h.nb _ (y9 (by rw [h.nl]; exact hs))
  obtain ⟨h1, h2, h3, h4', h5, h6, h7, h8, h9, h10, h11⟩ := h
  have hn0 : (now ++ List.replicate (4 - st.length) 0).getD s 0 = now.getD s 0 := by
    simp only [List.getD_eq_getElem?_getD]
    rw [List.getElem?_append_left (by omega)]
  have hnd : ∀ z, (now.set s to ++ List.replicate (4 - st.length) z) = (now ++ List.replicate (4 - st.length) z).set s to := fun z => by
    rw [List.set_append_left _ _ (by omega)]
  refine ⟨by simp [h1], ?_, by simp; omega, by simp [h4'], List.pairwise_append.2 ⟨h5, by simp, fun x hx y hy => ?_⟩, fun t ht => ?_, zBi h7 hlo.2 hhi.1, fun e he => ?_, fun x hx => ?_, fun z hz => ?_, ?_⟩
  · rcases hk with ⟨_, _, rfl⟩ | ⟨_, rfl⟩ | ⟨_, rfl⟩
    · rw [zBE]; exact h2
    · rw [zBE]; exact h2
    · exact h2
  · rw [List.mem_singleton] at hy
    subst hy
    exact (h6 x hx).2.1
  · rcases List.mem_append.1 ht with ht | ht
    · exact h6 t ht
    · rw [List.mem_singleton] at ht; omega
  · rcases List.mem_append.1 he with he | he
    · exact h8 e he
    · rw [List.mem_singleton] at he
      subst he
      have hkk : 0 ≤ kind ∧ kind ≤ 2 := by rcases hk with ⟨h, _⟩ | ⟨h, _⟩ | ⟨h, _⟩ <;> omega
      exact ⟨hkk.1, hkk.2, by show (0 : Int) ≤ (s : Int); omega, by show (s : Int) ≤ _; omega, hfr.1, hfr.2, hto.1, hto.2, hne, hlo.1, by show lo ≤ hi; omega, hhi.2⟩
  · rcases List.mem_or_eq_of_mem_set hx with hx | hx
    · exact h9 x hx
    · omega
  · rcases hk with ⟨_, _, rfl⟩ | ⟨_, rfl⟩ | ⟨_, rfl⟩
    · rcases zFz hz with hz | ⟨y, hy | hy, rfl⟩
      · have := h10 z hz; omega
      · have := h10 y hy; omega
      · omega
    · rcases zFz hz with hz | ⟨y, hy | hy, rfl⟩
      · have := h10 z hz; omega
      · have := h10 y hy; omega
      · omega
    · have := h10 z hz; omega
  · rw [kD, h11]
    simp only [Option.bind_some, seqStep, refStep, Int.toNat_natCast, hn0, bne_self_eq_false, Bool.false_or]
    rcases hk with ⟨rfl, hp, rfl⟩ | ⟨rfl, rfl⟩ | ⟨rfl, rfl⟩
    · have : decide (open_.getD (to.toNat * 4 + (now.getD s 0).toNat) 0 < 1) = false := by simp only [decide_eq_false_iff_not]; omega
      simp only [this, beq_self_eq_true, Bool.and_false, cond_false, cond_true]
      simp [hnd]
    · simp [hnd]
    · simp [hnd]
def hapReg (houses : Int) (start : List Int) (es : List Ent5) (si : List Sight5) : Reg := ⟨houses, start, es, si⟩
theorem Hap.reg {houses : Int} {st now open_ : List Int} {k day : Nat} {es : List Ent5} {ts : List Int} (h : Hap houses st k day now open_ es ts) (v : Valid ⟨houses, st, [], []⟩) (hk : k ≤ 6) : Valid (hapReg houses st es []) ∧ ∃ ds, Truth (hapReg houses st es []) ts ds ∧ ds.length = 10 ∧ ∀ n, n < 10 → Agrees (hapReg houses st es []) ts (refPlay (hapReg houses st es []) ts).1 n (ds.getD n 0) := by
  have v' : Valid (hapReg houses st es []) := ⟨v.h1, v.h4, v.s1, v.s4, Nat.le_trans h.el hk, Nat.zero_le _, v.st, h.en, fun _ h => by cases h⟩
  refine ⟨v', ?_⟩
  have hp : (refPlay (hapReg houses st es []) ts).2 = true := by
    unfold refPlay
    refine zDY (r := hapReg houses st es []) h.tl h.so 10 0 _ _ ⟨(now ++ List.replicate (4 - st.length) 0, open_), ?_⟩
    rw [show (hapReg houses st es []).entries = es from rfl, zEW (es := es) h.tl fun t ht => by have := h.td t ht; omega]
    have hs : startA (hapReg houses st es []) (hapReg houses st es []).start.length = st ++ List.replicate (4 - st.length) 0 := by
      show st.take st.length ++ _ = _
      rw [List.take_length]
      rfl
    rw [hs]
    exact h.st
  rcases play_ref v' h.da with ⟨_, k2⟩ | ⟨ds, k1, k2, _, k4⟩
  · rw [hp] at k2; cases k2
  · refine ⟨ds, ⟨h.da, k1, ?_⟩, k2, k4⟩
    clear k1 k2 k4
    have : ∀ (n : Nat) (ds : List Nat), seenAll (hapReg houses st es []) n ds = true := fun n ds => by
      induction ds generalizing n with
      | nil => rfl
      | cons d ds ih => simp only [seenAll, Bool.and_eq_true]; exact ⟨rfl, ih _⟩
    exact this 0 ds
theorem zDZ {r : Reg} (v : Valid r) {t : List Int} {ds : List Nat} (T : Truth r t ds) : (refPlay r t).2 = true := by
  rcases play_ref v T.dated with ⟨k1, _⟩ | ⟨_, _, _, k3, _⟩
  · rw [T.play] at k1; cases k1
  · exact k3
theorem Hap.stepN {houses : Int} {st now open_ open2 : List Int} {k day f to : Nat} {es : List Ent5} {ts : List Int} {kind lo hi : Int} {s : Nat} (h : Hap houses st k day now open_ es ts) (hd : day ≤ 9) (hs : s < st.length) (h4 : st.length ≤ 4) (hf : now.getD s 0 = (f : Int))
    (hto : (to : Int) ≤ houses - 1) (hne : f ≠ to) (hlo : 0 ≤ lo ∧ lo ≤ (day : Int)) (hhi : (day : Int) ≤ hi ∧ hi ≤ 9)
    (hk : (kind = 2 ∧ 0 < open_.getD (to * 4 + f) 0 ∧ open2 = upd open_ (to * 4 + f) (-1)) ∨ (kind = 1 ∧ open2 = upd open_ (f * 4 + to) 1) ∨ (kind = 0 ∧ open2 = open_)) :
    Hap houses st (k + 1) day (now.set s (to : Int)) open2 (es ++ [⟨kind, (s : Int), (f : Int), (to : Int), lo, hi⟩]) (ts ++ [(day : Int)]) := by
  have := h.step (kind := kind) (to := (to : Int)) (lo := lo) (hi := hi) (open2 := open2) hd hs h4 ⟨by omega, hto⟩ (by rw [hf]; omega) hlo hhi (by rw [hf]; simpa using hk)
  rw [hf] at this
  exact this
theorem rot_ne {f a H : Nat} (hf : f < H) (h2 : 2 ≤ H) : f ≠ (f + 1 + a % (H - 1)) % H ∧ (f + 1 + a % (H - 1)) % H < H := by
  have h1 := Nat.mod_lt a (show 0 < H - 1 by omega)
  generalize a % (H - 1) = q at *
  refine ⟨?_, Nat.mod_lt _ (by omega)⟩
  by_cases h : f + 1 + q < H
  · rw [Nat.mod_eq_of_lt h]; omega
  · rw [Nat.mod_eq_sub_mod (by omega), Nat.mod_eq_of_lt (by omega)]; omega
/-- Sights of what was so. -/
theorem sights_truth {r : Reg} {t : List Int} {ds : List Nat} {si : List Sight5} (v : Valid r) (hr : r.sights = []) (T : Truth r t ds) (hd : ds.length = 10) (ha : ∀ n, n < 10 → Agrees r t (refPlay r t).1 n (ds.getD n 0)) (h4 : si.length ≤ 4)
    (hs : ∀ s ∈ si, (0 ≤ s.sheet ∧ s.sheet ≤ (r.start.length : Int) - 1) ∧ (0 ≤ s.day ∧ s.day ≤ 9) ∧ s.house = houseAt (refPlay r t).1 s.day.toNat s.sheet.toNat) : Valid ⟨r.houses, r.start, r.entries, si⟩ ∧ Truth ⟨r.houses, r.start, r.entries, si⟩ t ds := by
  have hs4 := v.s4
  have hpl : ∀ m, placesA ⟨r.houses, r.start, r.entries, si⟩ m = placesA r m := fun m => rfl
  refine ⟨⟨v.h1, v.h4, v.s1, v.s4, v.e6, h4, v.st, v.en, fun s hs' => ?_⟩, T.dated, ?_, ?_⟩
  · obtain ⟨h1, h2, h3⟩ := hs s hs'
    obtain ⟨q1, _, q3, _⟩ := ha s.day.toNat (by omega)
    have := q3 s.sheet.toNat (by omega)
    rw [← q1 s.sheet.toNat (by omega), ← h3] at this
    exact ⟨h1.1, h1.2, this.1, by show s.house ≤ r.houses - 1; omega, h2.1, h2.2⟩
  · have L : Loose r ⟨r.houses, r.start, r.entries, []⟩ := ⟨rfl, Pt.refl (fun _ => ⟨rfl, rfl, rfl⟩) _, Pt.refl (fun _ => ⟨Int.le_refl _, Int.le_refl _⟩) _, .inl (Pt.refl (R := SameKind) (fun _ => rfl) _), fun _ h => by cases h⟩
    have L2 : Loose ⟨r.houses, r.start, r.entries, si⟩ ⟨r.houses, r.start, r.entries, []⟩ := ⟨rfl, Pt.refl (fun _ => ⟨rfl, rfl, rfl⟩) _, Pt.refl (fun _ => ⟨Int.le_refl _, Int.le_refl _⟩) _, .inl (Pt.refl (R := SameKind) (fun _ => rfl) _), fun _ h => by cases h⟩
    have L3 : Pt SameWay r.entries r.entries := Pt.refl (fun _ => ⟨rfl, rfl, rfl⟩) _
    have key : ∀ (cnt n m : Nat) (ds : List Nat), playF r t cnt n m = some ds → playF ⟨r.houses, r.start, r.entries, si⟩ t cnt n m = some ds := by
      have hd : ∀ (n : Int) (ts : List Int) (k m : Nat), dayF ⟨r.houses, r.start, r.entries, si⟩ n k ts m = dayF r n k ts m := fun n ts => by
        induction ts with
        | nil => intro k m; rfl
        | cons t ts ih =>
          intro k m
          simp only [dayF]
          rw [ih, ih]
          rfl
      intro cnt
      induction cnt with
      | zero => exact fun n m ds h => h
      | succ cnt ih =>
        intro n m ds h
        rw [playF] at h ⊢
        rw [hd]
        split at h
        · cases h
        · rename_i d1 h1
          split at h
          · cases h
          · rename_i ds1 h2
            cases h
            rw [ih _ _ _ h2]
    exact key 10 0 0 ds T.play
  · have key : ∀ (l : List Nat) (n : Nat), (∀ j x, l[j]? = some x → ds[n + j]? = some x) → seenAll ⟨r.houses, r.start, r.entries, si⟩ n l = true := fun l => by
      induction l with
      | nil => intro n _; rfl
      | cons d l ih =>
        intro n h
        simp only [seenAll, Bool.and_eq_true]
        refine ⟨List.all_eq_true.2 fun s hs' => ?_, ih (n + 1) fun j x hj => by rw [show n + 1 + j = n + (j + 1) by omega]; exact h (j + 1) x (by simpa using hj)⟩
        obtain ⟨h1, h2, h3⟩ := hs s hs'
        unfold seenB
        rw [hpl]
        by_cases e : s.day = (n : Int)
        · have hd0 := h 0 d rfl
          rw [Nat.add_zero] at hd0
          obtain ⟨q1, _, q3, _⟩ := ha n (by omega)
          have hg : ds.getD n 0 = d := by rw [List.getD_eq_getElem?_getD, hd0]; rfl
          rw [hg] at q1
          have h5 : (placesA r d).getD s.sheet.toNat 0 = s.house := by
            rw [← q1 s.sheet.toNat (by omega), h3, show s.day.toNat = n by omega]
          show ((s.day != (n : Int)) || ((placesA r d).getD s.sheet.toNat 0 == s.house)) = true
          rw [h5, beq_self_eq_true, Bool.or_true]
        · have : (s.day != (n : Int)) = true := by simpa using e
          rw [this]
          rfl
    exact key ds 0 fun j x hj => by rw [Nat.zero_add]; exact hj
end Go.Proofs.YtaokpncjemkhcaaGreat
namespace Go.Proofs.YtaokpncjemkhcaaGreat
set_option linter.all false
theorem zCx : ∀ {es : List Ent5} {ts : List Int} {k : Nat}, datedF es ts = true → datedF (es.take k) (ts.take k) = true
  | _, _, 0, _ => by simp [datedF]
  | [], [], k + 1, _ => rfl
  | [], _ :: _, _ + 1, h => by simp [datedF] at h
  | _ :: _, [], _ + 1, h => by simp [datedF] at h
  | e :: es, t :: ts, k + 1, h => by
    simp only [datedF, Bool.and_eq_true, List.take_succ_cons] at h ⊢
    exact ⟨h.1, zCx h.2⟩
theorem zFX {houses : Int} {st now open_ : List Int} {k day : Nat} {es : List Ent5} {ts : List Int} (h : Hap houses st k day now open_ es ts) (v : Valid ⟨houses, st, [], []⟩) (hk : k ≤ 6) (si : List Sight5) (j : Nat) : hasT (prefR ⟨houses, st, es, si⟩ j) := by
  have v' : Valid (prefR ⟨houses, st, es, si⟩ j) := ⟨v.h1, v.h4, v.s1, v.s4, by show (es.take j).length ≤ 6; have := h.el; rw [List.length_take]; omega, Nat.zero_le _, v.st, fun e he => h.en e (List.mem_of_mem_take he), fun _ h => by cases h⟩
  have htl : (ts.take j).length = (es.take j).length := by rw [List.length_take, List.length_take, h.tl]
  have hseq : ∃ st', seqStep (es.take j) (st ++ List.replicate (4 - st.length) 0, List.replicate 16 0) = some st' := by
    have := h.st
    rw [← List.take_append_drop j es, kD] at this
    cases hq : seqStep (es.take j) (st ++ List.replicate (4 - st.length) 0, List.replicate 16 0) with
    | none => rw [hq] at this; cases this
    | some st' => exact ⟨st', rfl⟩
  have hp : (refPlay (prefR ⟨houses, st, es, si⟩ j) (ts.take j)).2 = true := by
    unfold refPlay
    refine zDY (r := prefR ⟨houses, st, es, si⟩ j) htl (h.so.sublist (List.take_sublist _ _)) 10 0 _ _ ?_
    rw [show (prefR ⟨houses, st, es, si⟩ j).entries = es.take j from rfl, zEW htl fun t ht => by have := h.td t (List.mem_of_mem_take ht); omega]
    have hs : startA (prefR ⟨houses, st, es, si⟩ j) (prefR ⟨houses, st, es, si⟩ j).start.length = st ++ List.replicate (4 - st.length) 0 := by
      show st.take st.length ++ _ = _
      rw [List.take_length]
      rfl
    rw [hs]
    exact hseq
  have hd : datedF (prefR ⟨houses, st, es, si⟩ j).entries (ts.take j) = true := zCx h.da
  rcases play_ref v' hd with ⟨_, k2⟩ | ⟨ds, k1, k2, _, k4⟩
  · rw [hp] at k2; cases k2
  · refine (goes_truth v').2 ⟨ts.take j, ds, hd, k1, ?_⟩
    have : ∀ (n : Nat) (ds : List Nat), seenAll (prefR ⟨houses, st, es, si⟩ j) n ds = true := fun n ds => by
      induction ds generalizing n with
      | nil => rfl
      | cons d ds ih => simp only [seenAll, Bool.and_eq_true]; exact ⟨rfl, ih _⟩
    exact this 0 ds
theorem zFa {r : Reg} {si : List Sight5} {n : Int} : ∀ {ts : List Int} {k m : Nat}, dayF ⟨r.houses, r.start, r.entries, si⟩ n k ts m = dayF r n k ts m
  | [], _, _ => rfl
  | t :: ts, k, m => by
    simp only [dayF]
    rw [zFa, zFa (m := m ||| 2 ^ k)]
    rfl
theorem zEX {r : Reg} {si : List Sight5} {t : List Int} : ∀ {c n m : Nat}, playF ⟨r.houses, r.start, r.entries, si⟩ t c n m = playF r t c n m
  | 0, _, _ => rfl
  | c + 1, n, m => by
    rw [playF, playF, zFa]
    cases dayF r (n : Int) 0 t m with
    | none => rfl
    | some d => simp only; rw [zEX]
theorem zEc {r : Reg} {s : Sight5} : ∀ {l : List Nat} {n : Nat}, seenAll (seeingR r s) n l = true ↔ seenAll r n l = true ∧ ∀ j x, l[j]? = some x → seenB ((n + j : Nat) : Int) (placesA r x) s = true
  | [], n => by simp [seenAll]
  | d :: l, n => by
    simp only [seenAll, Bool.and_eq_true, zEc (l := l) (n := n + 1)]
    have hp : placesA (seeingR r s) d = placesA r d := rfl
    rw [hp, show (seeingR r s).sights = r.sights ++ [s] from rfl, List.all_append, Bool.and_eq_true]
    simp only [List.all_cons, List.all_nil, Bool.and_true]
    constructor
    · rintro ⟨⟨h1, h2⟩, h3, h4⟩
      refine ⟨⟨h1, h3⟩, fun j x hj => ?_⟩
      cases j with
      | zero => simp only [List.getElem?_cons_zero, Option.some.injEq] at hj; subst hj; exact h2
      | succ j => have := h4 j x (by simpa using hj); rwa [show n + 1 + j = n + (j + 1) by omega] at this
    · rintro ⟨⟨h1, h3⟩, h4⟩
      refine ⟨⟨h1, h4 0 d rfl⟩, h3, fun j x hj => ?_⟩
      have := h4 (j + 1) x (by simpa using hj)
      rwa [show n + (j + 1) = n + 1 + j by omega] at this
theorem see_truth {r : Reg} {s : Sight5} {t : List Int} {ds : List Nat} : Truth (seeingR r s) t ds ↔ Truth r t ds ∧ ∀ (j x : Nat), ds[j]? = some x → seenB ((j : Nat) : Int) (placesA r x) s = true := by
  constructor
  · intro T
    obtain ⟨h1, h2⟩ := zEc.1 T.seen
    refine ⟨⟨T.dated, by have := T.play; unfold playDays at this ⊢; rwa [show seeingR r s = ⟨r.houses, r.start, r.entries, r.sights ++ [s]⟩ from rfl, zEX] at this, h1⟩, fun j x hj => by have := h2 j x hj; rwa [Nat.zero_add] at this⟩
  · rintro ⟨T, h⟩
    refine ⟨T.dated, by have := T.play; unfold playDays at this ⊢; rw [show seeingR r s = ⟨r.houses, r.start, r.entries, r.sights ++ [s]⟩ from rfl, zEX]; exact this, zEc.2 ⟨T.seen, fun j x hj => by rw [Nat.zero_add]; exact h j x hj⟩⟩
end Go.Proofs.YtaokpncjemkhcaaGreat
namespace Go.Proofs.YtaokpncjemkhcaaGreat
open Go.RowKit
set_option maxRecDepth 20000
set_option linter.all false
def cells1 (l : List Int) : List TV := ((l.map intE).flatten).map .d
theorem zBG (l : List Int) : cells1 l = l.map fun n => TV.d (.int .i64 n) := by
  unfold cells1
  induction l with
  | nil => rfl
  | cons x l ih => simp only [List.map_cons, List.flatten_cons, List.map_append, ih]; rfl
theorem c1_get {l : List Int} {rest : List TV} {i k : Nat} {x : Int} (h : l[i]? = some x) (hk : k = i) : (cells1 l ++ rest)[k]? = some (.d (.int .i64 x)) := by
  have hlt := (List.getElem?_eq_some_iff.1 h).1
  rw [zBG, hk, List.getElem?_append_left (by simpa using hlt), List.getElem?_map, h]
  rfl
theorem c1_set {l : List Int} {rest : List TV} {i k : Nat} {x : Int} (h : i < l.length) (hk : k = i) : (cells1 l ++ rest).set k (.d (.int .i64 x)) = cells1 (l.set i x) ++ rest := by
  rw [zBG, zBG, hk, List.set_append_left _ _ (by simpa using h), List.map_set]
theorem zF5 (l : List Int) : (cells1 l).length = l.length := by rw [zBG]; simp
theorem vec1 {l : List Int} {v : Value} (h : VecV v 1 (cells1 l)) (h0 : 0 < l.length) : ∃ b c, v = .slice (some ⟨b, 0, none⟩) l.length c ∧ l.length ≤ c ∧ c ≤ maxLen := by
  have hl := zF5 l
  rcases h with ⟨_, h⟩ | ⟨b, n, c, rfl, h1, h2, h3⟩
  · rw [h] at hl; simp at hl; omega
  · have : n = l.length := by omega
    subst this
    exact ⟨b, c, rfl, h1, h2⟩
theorem zBm {l : List Nat} {i : Nat} (h : ∀ x ∈ l, x < 65536) : wordN l i < 65536 := by
  unfold wordN
  cases hb : (l.length : Int) == 0 with
  | true => simp
  | false =>
    have h0 : 0 < l.length := by simp at hb; cases l with | nil => exact (hb rfl).elim | cons _ _ => simp
    have hm := Nat.mod_lt i h0
    show l.getD (i % l.length) 0 < 65536
    rw [List.getD_eq_getElem?_getD, List.getElem?_eq_getElem hm]
    exact h _ (List.getElem_mem hm)
theorem ents_add {es : List Ent5} {e : Ent5} : es.map entE ++ [entE e] = (es ++ [e]).map entE := by simp
theorem ints_add {l : List Int} {x : Int} : l.map intE ++ [intE x] = (l ++ [x]).map intE := by simp
theorem zDF {l : List Sight5} {x : Sight5} : l.map sightE ++ [sightE x] = (l ++ [x]).map sightE := by simp
def HapX (H : Nat) (start : List Int) : Type := {x : Reg × List Int // x.1.houses = (H : Int) ∧ x.1.start = start ∧ Valid x.1 ∧ (∃ ds, Truth x.1 x.2 ds) ∧ ∀ j, hasT (prefR x.1 j)}
theorem bt106 : BT Tryz.prog 106 (.agg #[(.int .i64 0), (.int .i64 0), (.int .i64 0)]) (fun i => ([(0, 1), (1, 1), (2, 1)] : List (Nat × Nat))[i]?) := yN Tryz.underlying106 zr106 (by kernel_rfl)
theorem bt105 : BT Tryz.prog 105 (.agg #[(.int .i64 0), (.int .i64 0), (.int .i64 0), (.int .i64 0), (.int .i64 0), (.int .i64 0)]) (fun i => ([(0, 1), (1, 1), (2, 1), (3, 1), (4, 2)] : List (Nat × Nat))[i]?) := yN Tryz.underlying105 zr105 (by kernel_rfl)
theorem list_vec (l : List Int) (h5 : l.length ≤ 1000000) : EffAt Tryz.prog 58 [.d (ints l)] [] (X := {v : Value // VecV v 1 (cells1 l)}) (fun v => .val v.1) (fun v => [(1010, vecRes 3 v.1 1 (cells1 l))]) := by
 refine EffAt.of_awp Tryz.func58 rfl (by kernel_rfl) rfl fun Γ hn => ?_
 refine zC (zB ?_)
 refine sq rfl rfl hn rfl (zF rfl rfl) ?_
 refine zE (zA (zC (zB ?_)))
 refine stepW (zCs 1010 rfl rfl rfl (nb hn rfl) Tryz.underlying22 sz3 zr3 rfl rfl (show _ = [] from by kernel_rfl) (by kernel_rfl) rfl rfl) fun b3 => ?_
 refine sq rfl rfl hn rfl (zG rfl rfl) ?_
 refine stepW (zBA (id := 1010) rfl rfl rfl (nb hn rfl) elt22 zr3 rfl (vec0 b3 1) rfl rfl rfl (by simp; omega) (by simp; omega) (fun _ _ => trivial)) fun ⟨v5, hv5⟩ => ?_
 refine sq rfl rfl hn rfl (zF rfl rfl) ?_
 refine zE (zA (zP ?_))
 exact ret_E (.inl rfl) ⟨v5, hv5⟩ (yG rfl (.tmp rfl)) ⟨rfl, trivial⟩
theorem Happened_eff (H : Nat) (start : List Int) (words : List Nat) (many : Nat) (v : Valid ⟨(H : Int), start, [], []⟩) (hw5 : ∀ x ∈ words, x < 65536) (hm5 : many < 256) : EffAt Tryz.prog 50 [.d (.int .i64 (H : Nat)), .d (ints start), .d (wordsD words), .d (.int .u8 (many : Nat))] [] (X := HapX H start) (fun x => .d (.tup [regD x.1.1, ints x.1.2])) (fun _ => []) := by
 refine EffAt.of_awp Tryz.func50 rfl (by kernel_rfl) rfl fun Γ hn => ?_
 have hs4 : start.length ≤ 4 := v.s4
 have hs1 : 1 ≤ start.length := v.s1
 have hH4 : (H : Int) ≤ 4 := v.h4
 have hH1 : 1 ≤ (H : Int) := v.h1
 refine zC (zB ?_)
 refine stepW (zg 8 rfl rfl rfl (nb hn rfl) zr26 rfl rfl) fun b8 => ?_
 refine sq rfl rfl hn rfl (zF rfl rfl) ?_
 refine zE (zA (zC (zB ?_)))
 refine sq rfl rfl hn rfl (zG rfl rfl) ?_
 refine sq rfl rfl hn rfl (zG rfl rfl) ?_
 refine stepW (s_call [] (fun _ => zEQ start (by omega)) rfl (zJ rfl) rfl (nb hn rfl) (fun _ => trivial) rfl rfl (.refl _)) fun _ => ?_
 refine sq rfl rfl hn rfl (zt rfl bt26 rfl rfl rfl rfl rfl) ?_
 refine stepW (zg 10 rfl rfl rfl (nb hn rfl) zr26 rfl rfl) fun b10 => ?_
 refine stepW (zh rfl rfl rfl rfl rfl rfl (id := 10) rfl sz26 rfl (Nat.le_of_ble_eq_true rfl) rfl trivial) fun _ => ?_
 refine zE (zA (zC (zB ?_)))
 refine sq rfl rfl hn rfl (zG rfl rfl) ?_
 refine stepW (s_callE (list_vec start (by omega)) rfl rfl rfl (nb hn rfl) (.d rfl) rfl (.refl _) trivial (fun _ => rfl) (fun _ _ => trivial)) fun ⟨vn, hvn⟩ => ?_
 obtain ⟨bn, cn, rfl, hcn, hcm⟩ := vec1 hvn hs1
 refine sq rfl rfl hn rfl (zF rfl rfl) ?_
 refine zE (zA (zC (zB ?_)))
 refine sq rfl rfl hn rfl (zF rfl rfl) ?_
 refine zE (zA (zC (zB ?_)))
 refine stepW (zg 13 rfl rfl rfl (nb hn rfl) zr96 (zerosT 16) (by kernel_rfl)) fun b13 => ?_
 refine zE (zA (zC (zB ?_)))
 refine sq rfl rfl hn rfl (zF rfl rfl) ?_
 refine zE (zA (zC (zC ?_)))
 refine zw (g_nil (t := 12) (id := 12) 3 1 rfl (nb hn rfl)) ?_
 refine zw (gh_nilcell (id := 10) (k := 2) 1020 105 6 rfl rfl) ?_
 refine zB ?_
 refine sq rfl rfl hn rfl (zF rfl rfl) ?_
 refine zE (zA (zR ?_))
 refine awp_loop_on (ι := {x : (Nat × Nat) × (List Int × List Int) × (List Ent5 × List Int) × (Value × Value) // x.1.1 ≤ many % 7 ∧ x.1.2 ≤ 9 ∧ Hap (H : Int) start x.1.1 x.1.2 x.2.1.1 x.2.1.2 x.2.2.1.1 x.2.2.1.2}) (fun x => (12, true, .val x.1.2.2.2.2) :: (14, true, .d (.int .i64 (x.1.1.2 : Nat))) :: (15, true, .d (.int .i64 (x.1.1.1 : Nat))) :: anys [30, 31, 32, 33, 34, 37, 38, 39, 40, 41, 42, 43, 44, 45, 16, 17, 46, 47, 48, 49, 50, 51, 52, 53, 54, 55, 56, 57, 58, 59, 60, 61, 18, 62, 63, 64, 65, 66, 67, 68, 69, 70, 71, 72, 73, 74, 75, 76, 77, 78, 79, 81, 82, 83, 84, 85, 86, 87, 88, 89, 90, 91, 92, 93, 80, 94, 95, 96, 97, 98, 99, 100, 101, 102, 103, 104, 106, 107, 108, 105, 109, 110, 111, 112, 113, 114, 115, 116, 117, 118, 119, 120, 121, 122, 123, 124, 125, 126, 127, 128, 129, 130, 131, 132, 133, 134, 135, 136, 137, 138, 139, 140, 141, 142, 143, 144, 145, 146, 147, 148, 149, 35, 36]) (fun x => (10, .box b10 26 [.d (.int .i64 (H : Nat)), .d (ints start), .val x.1.2.2.2.1, .d .nil]) :: (1020, .row x.1.2.2.2.1 105 6 (x.1.2.2.1.1.map entE)) :: (12, .row x.1.2.2.2.2 3 1 (x.1.2.2.1.2.map intE)) :: (1010, .box bn 3 (cells1 x.1.2.1.1 ++ List.replicate ((cn - start.length) * 1) .any)) :: (13, .box b13 96 (x.1.2.1.2.map intT)) :: gones [18]) (fun x => many % 7 - x.1.1.1) ⟨((0, 0), (start, List.replicate 16 0), ([], []), .slice none 0 0, .slice none 0 0), Nat.zero_le _, by simp, Hap.start v.st⟩ ⟨.inl rfl, .inl rfl, .inl rfl, zK _⟩ ⟨.inl rfl, .inl rfl, .inl rfl, .inl rfl, .inl rfl, zW _⟩ ?_
 rintro ⟨⟨⟨i, day⟩, ⟨now, op⟩, ⟨es, ts⟩, vE, vT⟩, hi, hd9, hap⟩
 dsimp only
 dsimp only at hi hd9 hap
 refine zC (zC (zB ?_))
 refine sq rfl rfl hn rfl (zG rfl rfl) ?_
 refine sq rfl rfl hn rfl (zG rfl rfl) ?_
 refine sq rfl rfl hn rfl (zFb rfl rfl Tryz.underlying5 Tryz.underlying3 (r := (many : Int)) (i64w (by omega) rfl)) ?_
 refine sq rfl rfl hn rfl (kF rfl rfl rfl (r := ((many % 7 : Nat) : Int)) (by omega) (modN (b := 7) (by omega))) ?_
 refine sq rfl rfl hn rfl (yB rfl rfl rfl) ?_
 refine zE (zA ?_)
 refine zQ rfl (fun hb0 => ?_) (fun hb0 => ?_)
 ·
  have hil : i < many % 7 := by simp only [decide_eq_true_eq] at hb0; omega
  have hm7 : many % 7 ≤ 6 := by omega
  have hel := hap.el
  have htl := hap.tl
  refine zT (zA (zC (zR (zC (zB ?_)))))
  refine sq rfl rfl hn rfl (zG rfl rfl) ?_
  refine sq rfl rfl hn rfl (zG rfl rfl) ?_
  refine sq rfl rfl hn rfl (zEs rfl rfl rfl (r := ((3 * i : Nat) : Int)) (i64w (by omega) (by omega))) ?_
  refine stepW (s_call [] (fun _ => zBD words (3 * i) hw5) rfl (zJ rfl) rfl (nb hn rfl) (fun _ => trivial) rfl rfl (.refl _)) fun _ => ?_
  refine sq rfl rfl hn rfl (zG rfl rfl) ?_
  refine sq rfl rfl hn rfl (zG rfl rfl) ?_
  refine sq rfl rfl hn rfl (zEs rfl rfl rfl (r := ((3 * i : Nat) : Int)) (i64w (by omega) (by omega))) ?_
  refine sq rfl rfl hn rfl (zq rfl rfl rfl (r := ((3 * i + 1 : Nat) : Int)) (i64w (by omega) (by omega))) ?_
  refine stepW (s_call [] (fun _ => zBD words (3 * i + 1) hw5) rfl (zJ rfl) rfl (nb hn rfl) (fun _ => trivial) rfl rfl (.refl _)) fun _ => ?_
  refine sq rfl rfl hn rfl (zF rfl rfl) ?_
  refine sq rfl rfl hn rfl (zF rfl rfl) ?_
  refine zE (zA (zC ?_))
  obtain ⟨w, hw⟩ : ∃ w, wordN words (3 * i) = w := ⟨_, rfl⟩
  obtain ⟨u, hu⟩ : ∃ u, wordN words (3 * i + 1) = u := ⟨_, rfl⟩
  have hwl : w < 65536 := hw ▸ zBm hw5
  have hul : u < 65536 := hu ▸ zBm hw5
  rw [hw, hu]
  refine zB ?_
  refine sq rfl rfl hn rfl (zG rfl rfl) ?_
  refine sq rfl rfl hn rfl (zG rfl rfl) ?_
  refine sq rfl rfl hn rfl (kF rfl rfl rfl (r := ((w % 3 : Nat) : Int)) (by omega) (modN (b := 3) (by omega))) ?_
  refine sq rfl rfl hn rfl (zq rfl rfl rfl (r := ((day + w % 3 : Nat) : Int)) (i64w (by omega) (by omega))) ?_
  refine sq rfl rfl hn rfl (zF rfl rfl) ?_
  refine zE (zA (zC (zC (zB ?_))))
  refine sq rfl rfl hn rfl (zG rfl rfl) ?_
  refine sq rfl rfl hn rfl (yq rfl rfl rfl) ?_
  refine sq rfl rfl hn rfl (zG rfl rfl) ?_
  refine stepG [] (zD rfl rfl rfl) rfl (nb hn rfl) (fun hc => trivial) (fun hc => zG rfl rfl) ?_
  refine stepG [(53, _)] (zD rfl rfl rfl) rfl (nb hn rfl) (fun hc => ⟨⟨_, rfl, hc⟩, trivial⟩) (fun hc => yB rfl rfl rfl) ?_
  refine sq rfl rfl hn rfl (q_or rfl rfl rfl (by intro hB; first | (rw [hB]; rfl) | (rw [hB, hc]; rfl) | simp_all)) ?_
  refine zE (zA ?_)
  refine zQ rfl (fun hb1 => ?_) (fun hb1 => ?_)
  ·
   refine zk (zI ?_)
   refine yc rfl ?_
   refine zI (zI (zS (zA (zC (zC ?_)))))
   have hi7 : i ≤ 6 := by omega
   obtain ⟨v0, ds, T, hdl, hag⟩ := hap.reg v hi7
   have hrp := zDZ v0 T
   have hout := zAo v0 ts
   obtain ⟨o, ho⟩ : ∃ o, (refPlay (hapReg (H : Int) start es []) ts).1 = o := ⟨_, rfl⟩
   rw [ho] at hout hag
   refine zw (gh_rowcell (id := 10) (k := 2) (rid := 1020) rfl rfl rfl) ?_
   refine zB ?_
   refine sq rfl rfl hn rfl (za rfl rfl (id := 10) rfl Tryz.underlying26 rfl sz26 rfl rfl sees0) ?_
   refine sq rfl rfl hn rfl (zG rfl rfl) ?_
   refine yf (g_row (t := 151) (id := 12) rfl rfl) ?_
   refine stepW (s_call [] (fun _ => zDT (hapReg (H : Int) start es []) ts) rfl (zJ rfl) rfl (nb hn rfl) (fun _ => trivial) rfl rfl (by first | exact .refl _ | (repeat (first | exact .refl _ | exact .nil _ | refine .cons ?_ ?_ | refine .agg ?_ | refine .tup ?_)))) fun _ => ?_
   refine sq rfl rfl hn rfl (yE rfl rfl) ?_
   refine zE (zA ?_)
   refine zQ rfl (fun hb2 => ?_) (fun hb2 => ?_)
   ·
    exact absurd hb2 (by rw [show datedF (hapReg (H : Int) start es []).entries ts = true from hap.da]; simp)
   ·
    refine zT (zA (zC (zB ?_)))
    refine sq rfl rfl hn rfl (za rfl rfl (id := 10) rfl Tryz.underlying26 rfl sz26 rfl rfl sees0) ?_
    refine sq rfl rfl hn rfl (zG rfl rfl) ?_
    refine yf (g_row (t := 158) (id := 12) rfl rfl) ?_
    refine stepW (s_call [] (fun _ => (by have h6 := zBa (hapReg (H : Int) start es []) ts v0 hap.tl; rw [hrp, ho] at h6; exact h6)) rfl (zJ rfl) rfl (nb hn rfl) (fun _ => trivial) rfl rfl (by first | exact .refl _ | (repeat (first | exact .refl _ | exact .nil _ | refine .cons ?_ ?_ | refine .agg ?_ | refine .tup ?_)))) fun _ => ?_
    refine sq rfl rfl hn rfl (zG rfl rfl) ?_
    refine sq rfl rfl hn rfl (zY rfl rfl rfl) ?_
    refine sq rfl rfl hn rfl (zY rfl rfl rfl) ?_
    refine stepW (zg 19 rfl rfl rfl (nb hn rfl) zr99 (zerosT 200) (by kernel_rfl)) fun b19 => ?_
    refine stepW (zh rfl rfl rfl rfl rfl rfl (id := 19) rfl sz99 (y4 hout) (Nat.le_of_ble_eq_true rfl) (kY (by simp)) trivial) fun _ => ?_
    refine sq rfl rfl hn rfl (zF rfl rfl) ?_
    refine zE (zA (zC (zC ?_)))
    refine zw (gh_nilcell (id := 10) (k := 3) 1021 106 3 rfl rfl) ?_
    refine zB ?_
    refine sq rfl rfl hn rfl (zF rfl rfl) ?_
    refine zE (zA (zR ?_))
    refine awp_loop_on (ι := {x : Nat × List Sight5 × Value // x.1 ≤ wordN words 5 % 5 ∧ x.2.1.length ≤ x.1 ∧ ∀ s ∈ x.2.1, (0 ≤ s.sheet ∧ s.sheet ≤ (start.length : Int) - 1) ∧ (0 ≤ s.day ∧ s.day ≤ 9) ∧ s.house = houseAt o s.day.toNat s.sheet.toNat}) (fun x => (21, true, .d (.int .i64 (x.1.1 : Nat))) :: anys [162, 163, 164, 165, 166, 167, 168, 169, 172, 173, 174, 175, 176, 22, 177, 178, 179, 180, 181, 182, 183, 184, 23, 185, 186, 187, 188, 189, 190, 191, 192, 193, 194, 195, 196, 197, 198, 199, 170, 171]) (fun x => (10, .box b10 26 [.d (.int .i64 (H : Nat)), .d (ints start), .d (entsD es), .val x.1.2.2]) :: (1021, .row x.1.2.2 106 3 (x.1.2.1.map sightE)) :: gones [23]) (fun x => wordN words 5 % 5 - x.1.1) ⟨(0, [], .slice none 0 0), Nat.zero_le _, Nat.le_refl _, fun _ h => (by cases h)⟩ ⟨.inl rfl, zK _⟩ ⟨.inl rfl, .inl rfl, zW _⟩ ?_
    rintro ⟨⟨k, si, vS⟩, hk5, hsi, hsp⟩
    dsimp only
    dsimp only at hk5 hsi hsp
    refine zC (zC (zB ?_))
    refine sq rfl rfl hn rfl (zG rfl rfl) ?_
    refine sq rfl rfl hn rfl (zG rfl rfl) ?_
    refine stepW (s_call [] (fun _ => zBD words 5 hw5) rfl (zJ rfl) rfl (nb hn rfl) (fun _ => trivial) rfl rfl (.refl _)) fun _ => ?_
    refine sq rfl rfl hn rfl (kF rfl rfl rfl (r := ((wordN words 5 % 5 : Nat) : Int)) (by omega) (modN (b := 5) (by omega))) ?_
    refine sq rfl rfl hn rfl (yB rfl rfl rfl) ?_
    refine sq rfl rfl hn rfl (zG rfl rfl) ?_
    refine stepG [] (zD rfl rfl rfl) rfl (nb hn rfl) (fun hc => trivial) (fun hc => zG rfl rfl) ?_
    refine sq rfl rfl hn rfl (yC rfl rfl rfl (by intro hB; first | (rw [hB]; rfl) | (rw [hB, hc]; rfl) | simp_all)) ?_
    refine zE (zA ?_)
    refine zQ rfl (fun hb3 => ?_) (fun hb3 => ?_)
    ·
     have hkl : k < wordN words 5 % 5 := by simp at hb3; omega
     refine zT (zA (zC (zR (zC (zB ?_)))))
     refine sq rfl rfl hn rfl (zG rfl rfl) ?_
     refine sq rfl rfl hn rfl (zG rfl rfl) ?_
     refine sq rfl rfl hn rfl (zEs rfl rfl rfl (r := ((3 * k : Nat) : Int)) (i64w (by omega) (by omega))) ?_
     refine sq rfl rfl hn rfl (zq rfl rfl rfl (r := ((3 * k + 2 : Nat) : Int)) (i64w (by omega) (by omega))) ?_
     refine stepW (s_call [] (fun _ => zBD words (3 * k + 2) hw5) rfl (zJ rfl) rfl (nb hn rfl) (fun _ => trivial) rfl rfl (.refl _)) fun _ => ?_
     refine sq rfl rfl hn rfl (zF rfl rfl) ?_
     refine zE (zA (zC ?_))
     obtain ⟨q, hq⟩ : ∃ q, wordN words (3 * k + 2) = q := ⟨_, rfl⟩
     have hql : q < 65536 := hq ▸ zBm hw5
     rw [hq]
     have hqm := Nat.mod_lt q (show 0 < start.length by omega)
     refine zB ?_
     refine sq rfl rfl hn rfl (zG rfl rfl) ?_
     refine sq rfl rfl hn rfl (zG rfl rfl) ?_
     refine sq rfl rfl hn rfl (zu rfl rfl Tryz.underlying22) ?_
     refine sq rfl rfl hn rfl (kF rfl rfl rfl (r := ((q % start.length : Nat) : Int)) (by simp only [List.length_map]; omega) (by simp only [List.length_map]; exact modN (by omega))) ?_
     refine sq rfl rfl hn rfl (zG rfl rfl) ?_
     refine sq rfl rfl hn rfl (zD2 rfl rfl rfl (r := ((q / 8 : Nat) : Int)) (by omega) (quoN (b := 8) (by omega) (by omega))) ?_
     refine sq rfl rfl hn rfl (kF rfl rfl rfl (r := ((q / 8 % 10 : Nat) : Int)) (by omega) (modN (b := 10) (by omega))) ?_
     refine sq rfl rfl hn rfl (zt rfl bt106 rfl rfl rfl rfl rfl) ?_
     refine stepW (zg 23 rfl rfl rfl (nb hn rfl) zr106 rfl rfl) fun b23 => ?_
     refine stepW (zh rfl rfl rfl rfl rfl rfl (id := 23) rfl sz106 rfl (Nat.le_of_ble_eq_true rfl) rfl trivial) fun _ => ?_
     refine zE (zA (zC ?_))
     refine yK (e := .normal) (ι := Unit) (fun x => anys [185, 186, 187, 188, 189, 190, 191, 192, 193]) (fun x => [(23, .box b23 106 [.d (.int .i64 ((q % start.length : Nat) : Int)), .d (.int .i64 (houseAt o (q / 8 % 10) (q % start.length))), .d (.int .i64 ((q / 8 % 10 : Nat) : Int))])]) (fun hJ4 => ?_) ?_
     ·
      refine z6 (W := fun b => b ≠ b19) fmo ?_
      refine d1q (i := 0) rfl (by kernel_rfl) (fun _ _ _ _ h => h) rfl rfl hn rfl (zH rfl rfl Tryz.underlying106 rfl sz3) ?_
      refine d1q (i := 2) rfl (by kernel_rfl) (fun _ _ _ _ h => h) rfl rfl hn rfl (zH rfl rfl Tryz.underlying106 rfl sz3) ?_
      refine d1q (i := 4) rfl (by kernel_rfl) (fun _ _ _ _ h => h) rfl rfl hn rfl (zH rfl rfl Tryz.underlying99 rfl sz95) ?_
      refine zL ?_
      refine yW 1 [3] (by kernel_rfl) ⟨?_, ?_, trivial⟩
      ·
       refine br rfl (zz _ [] (zJ rfl) rfl (nb hn rfl) (fun _ => trivial) (fun _ => zN rfl rfl (id := 23) rfl Tryz.underlying3 rfl rfl sees0)) fun _ => ?_
       refine d2_of_d1 ?_
       refine d1q (i := 5) rfl (by kernel_rfl) (fun _ _ _ _ h => h) rfl rfl hn rfl (q_indexA (i := q / 8 % 10) rfl rfl rfl Tryz.underlying95 sz94 rfl (by omega)) ?_
       refine zL ?_
       refine ze (i := 3) (by kernel_rfl) rfl (zz _ [] (zJ rfl) rfl (nb hn rfl) (fun _ => trivial) (fun _ => zN rfl rfl (id := 23) rfl Tryz.underlying3 rfl rfl sees0)) fun _ => ?_
       refine d2_of_d1 ?_
       refine d1q (i := 6) rfl (by kernel_rfl) (fun _ _ _ _ h => h) rfl rfl hn rfl (q_indexA (i := q % start.length) rfl rfl rfl Tryz.underlying94 sz3 rfl (by omega)) ?_
       refine d1q (i := 7) rfl (by kernel_rfl) (fun _ _ _ _ h => h) rfl rfl hn rfl (zN rfl rfl (id := 19) rfl Tryz.underlying3 rfl (at0 (by show 0 + 0 + (q / 8 % 10) * 4 + (q % start.length) * 1 = (q / 8 % 10) * 4 + (q % start.length); omega) (getD_some (by omega))) (seesA (by simp))) ?_
       refine d1q (i := 8) rfl (by kernel_rfl) (fun _ _ _ _ h => h) rfl rfl hn rfl (zH rfl rfl Tryz.underlying106 rfl sz3) ?_
       refine zL ?_
       refine yJ (i := 23) (j := 19) rfl rfl rfl (fun hne23_19 => ?_)
       refine ze (i := 9) (by kernel_rfl) rfl (s_store1 rfl rfl rfl rfl rfl rfl (id := 23) rfl sz3 (Nat.le_of_ble_eq_true rfl) rfl (fun e => hne23_19 _ rfl (congrArg some e.symm))) fun _ => ?_
       refine d2_of_d1 (zL ?_)
       refine zl (by kernel_rfl) ?_
       exact aend_join_on hJ4 () (zK _) ⟨.inl rfl, trivial⟩ (by repeat (first | exact kr _ | refine kc rfl ?_)) (by repeat (first | exact kr _ | refine kc rfl ?_))
      ·
       refine br rfl (zz _ [] (zJ rfl) rfl (nb hn rfl) (fun _ => trivial) (fun _ => zN rfl rfl (id := 23) rfl Tryz.underlying3 rfl rfl sees0)) fun _ => ?_
       refine d2_of_d1 (zL ?_)
       refine ze (i := 1) (by kernel_rfl) rfl (zz _ [] (zJ rfl) rfl (nb hn rfl) (fun _ => trivial) (fun _ => zN rfl rfl (id := 23) rfl Tryz.underlying3 rfl rfl sees0)) fun _ => ?_
       refine d2_of_d1 ?_
       refine d1q (i := 5) rfl (by kernel_rfl) (fun _ _ _ _ h => h) rfl rfl hn rfl (q_indexA (i := q / 8 % 10) rfl rfl rfl Tryz.underlying95 sz94 rfl (by omega)) ?_
       refine d1q (i := 6) rfl (by kernel_rfl) (fun _ _ _ _ h => h) rfl rfl hn rfl (q_indexA (i := q % start.length) rfl rfl rfl Tryz.underlying94 sz3 rfl (by omega)) ?_
       refine d1q (i := 7) rfl (by kernel_rfl) (fun _ _ _ _ h => h) rfl rfl hn rfl (zN rfl rfl (id := 19) rfl Tryz.underlying3 rfl (at0 (by show 0 + 0 + (q / 8 % 10) * 4 + (q % start.length) * 1 = (q / 8 % 10) * 4 + (q % start.length); omega) (getD_some (by omega))) (seesA (by simp))) ?_
       refine d1q (i := 8) rfl (by kernel_rfl) (fun _ _ _ _ h => h) rfl rfl hn rfl (zH rfl rfl Tryz.underlying106 rfl sz3) ?_
       refine zL ?_
       refine yJ (i := 23) (j := 19) rfl rfl rfl (fun hne23_19 => ?_)
       refine ze (i := 9) (by kernel_rfl) rfl (s_store1 rfl rfl rfl rfl rfl rfl (id := 23) rfl sz3 (Nat.le_of_ble_eq_true rfl) rfl (fun e => hne23_19 _ rfl (congrArg some e.symm))) fun _ => ?_
       refine d2_of_d1 (zL ?_)
       refine zl (by kernel_rfl) ?_
       exact aend_join_on hJ4 () (zK _) ⟨.inl rfl, trivial⟩ (by repeat (first | exact kr _ | refine kc rfl ?_)) (by repeat (first | exact kr _ | refine kc rfl ?_))
     ·
      rintro _
      refine zA (zB ?_)
      refine sq rfl rfl hn rfl (zH rfl rfl Tryz.underlying26 rfl sz24) ?_
      refine sq rfl rfl hn rfl (zN rfl rfl (id := 10) rfl Tryz.underlying24 rfl rfl sees0) ?_
      refine sq rfl rfl hn rfl (za rfl rfl (id := 23) rfl Tryz.underlying106 rfl sz106 rfl rfl sees0) ?_
      refine stepW (zb rfl rfl rfl (nb hn rfl) Tryz.underlying24 sz106 zr106 rfl rfl rfl (show _ = [.d (.int .i64 0), .d (.int .i64 0), .d (.int .i64 0)] from by kernel_rfl) (by kernel_rfl) rfl (zAK (by kernel_rfl) rfl) (kh _) (zBo rfl) (zAO rfl)) fun _ => ?_
      refine stepW (s_append (id := 1021) rfl rfl rfl (nb hn rfl) elt24 trivial rfl rfl rfl (by simp; omega) (by simp; omega) (fun b hb => trivial)) fun v198 => ?_
      refine sq rfl rfl hn rfl (zH rfl rfl Tryz.underlying26 rfl sz24) ?_
      refine stepW (s_storeRow rfl rfl rfl rfl rfl (rid := 1021) rfl (id := 10) rfl sz24 (Nat.le_of_ble_eq_true rfl) rfl trivial) fun _ => ?_
      refine zE (zX (zA (zB ?_)))
      refine sq rfl rfl hn rfl (zG rfl rfl) ?_
      refine sq rfl rfl hn rfl (zq rfl rfl rfl (r := ((k + 1 : Nat) : Int)) (i64w (by omega) (by omega))) ?_
      refine sq rfl rfl hn rfl (zF rfl rfl) ?_
      refine zE ?_
      exact zU ⟨(k + 1, si ++ [⟨(q % start.length : Nat), houseAt o (q / 8 % 10) (q % start.length), (q / 8 % 10 : Nat)⟩], v198), by simp only; omega, by simp; omega, fun s hs => by rcases List.mem_append.1 hs with hs | hs; exact hsp s hs; rw [List.mem_singleton] at hs; subst hs; exact ⟨⟨by show (0 : Int) ≤ ((q % start.length : Nat) : Int); omega, by show ((q % start.length : Nat) : Int) ≤ _; omega⟩, ⟨by show (0 : Int) ≤ ((q / 8 % 10 : Nat) : Int); omega, by show ((q / 8 % 10 : Nat) : Int) ≤ _; omega⟩, rfl⟩⟩ ⟨.inl rfl, zK _⟩ ⟨.inl rfl, .inl (congrArg (fun z => some (Res.row v198 106 3 z)) (zDF (x := ⟨((q % start.length : Nat) : Int), houseAt o (q / 8 % 10) (q % start.length), ((q / 8 % 10 : Nat) : Int)⟩))), zW _⟩ (by simp only; omega) (by repeat (first | exact kr _ | refine kc rfl ?_)) (by repeat (first | exact kr _ | refine kc rfl ?_))
    ·
     refine zk (zI (zI (zS (zA (zC ?_)))))
     have hst5 := sights_truth v0 rfl T hdl (by rw [ho]; exact hag) (show si.length ≤ 4 by omega) (fun s hs => by rw [ho]; exact hsp s hs)
     refine zw (gh_rowcell (id := 10) (k := 3) (rid := 1021) rfl rfl rfl) ?_
     refine zB ?_
     refine sq rfl rfl hn rfl (za rfl rfl (id := 10) rfl Tryz.underlying26 rfl sz26 rfl rfl sees0) ?_
     refine sq rfl rfl hn rfl (zG rfl rfl) ?_
     refine stepW (zh rfl rfl rfl rfl rfl rfl (id := 8) rfl sz26 rfl (Nat.le_of_ble_eq_true rfl) rfl trivial) fun _ => ?_
     refine sq rfl rfl hn rfl (zF rfl rfl) ?_
     refine zE (zA (zP ?_))
     refine yp (g_row (t := 9) (id := 12) rfl rfl) ?_
     exact ret_E (.inl rfl) ⟨(⟨(H : Int), start, es, si⟩, ts), rfl, rfl, hst5.1, ⟨ds, hst5.2⟩, zFX hap v hi7 si⟩ (yV rfl (.d (.cellA rfl (id := 8) rfl Tryz.underlying26 rfl sz26 rfl rfl)) (.tmp rfl)) trivial
  ·
   have hdh : day + w % 3 ≤ 9 ∧ 2 ≤ H := by simp at hb1; omega
   refine zT (zA (zC (zB ?_)))
   refine sq rfl rfl hn rfl (zG rfl rfl) ?_
   refine sq rfl rfl hn rfl (zD2 rfl rfl rfl (r := ((w / 4 : Nat) : Int)) (by omega) (quoN (b := 4) (by omega) (by omega))) ?_
   refine sq rfl rfl hn rfl (zG rfl rfl) ?_
   refine sq rfl rfl hn rfl (zu rfl rfl Tryz.underlying22) ?_
   refine sq rfl rfl hn rfl (kF rfl rfl rfl (r := ((w / 4 % start.length : Nat) : Int)) (by simp only [List.length_map]; omega) (by simp only [List.length_map]; exact modN (by omega))) ?_
   refine sq rfl rfl hn rfl (zt rfl bt105 rfl rfl rfl rfl rfl) ?_
   refine stepW (zg 18 rfl rfl rfl (nb hn rfl) zr105 rfl rfl) fun b18 => ?_
   refine stepW (zh rfl rfl rfl rfl rfl rfl (id := 18) rfl sz105 rfl (Nat.le_of_ble_eq_true rfl) rfl trivial) fun _ => ?_
   refine zE (zA (zC ?_))
   obtain ⟨s, hs⟩ : ∃ s, w / 4 % start.length = s := ⟨_, rfl⟩
   rw [hs]
   have hsl : s < start.length := hs ▸ Nat.mod_lt _ (by omega)
   have hnl := hap.nl
   have hfb := hap.nb _ (y9 (show s < now.length by omega))
   obtain ⟨f, hf⟩ : ∃ f : Nat, now.getD s 0 = f := ⟨(now.getD s 0).toNat, by omega⟩
   have hget : now[s]? = some (f : Int) := by rw [← hf]; exact getD_some (by omega)
   have hfH : f < H := by omega
   refine zB ?_
   refine sq rfl rfl hn rfl (zG rfl rfl) ?_
   refine sq rfl rfl hn rfl (zH rfl rfl Tryz.underlying105 rfl sz3) ?_
   refine sq rfl rfl hn rfl (zN rfl rfl (id := 18) rfl Tryz.underlying3 rfl rfl sees0) ?_
   refine sq rfl rfl hn rfl (q_indexV (i := s) rfl rfl rfl Tryz.underlying22 sz3 rfl hsl) ?_
   refine sq rfl rfl hn rfl (zN rfl rfl (id := 1010) rfl Tryz.underlying3 rfl (c1_get hget (by show 0 + s * 1 = s; omega)) sees0) ?_
   refine sq rfl rfl hn rfl (zH rfl rfl Tryz.underlying105 rfl sz3) ?_
   refine stepW (s_store1 rfl rfl rfl rfl rfl rfl (id := 18) rfl sz3 (Nat.le_of_ble_eq_true rfl) rfl trivial) fun _ => ?_
   refine zE (zA (zC ?_))
   refine z6 (W := fun b => True) fmo ?_
   refine d1q (i := 0) rfl (by kernel_rfl) (fun _ _ _ _ h => h) rfl rfl hn rfl (zH rfl rfl Tryz.underlying105 rfl sz3) ?_
   refine d1q (i := 3) rfl (by kernel_rfl) (fun _ _ _ _ h => h) rfl rfl hn rfl (zG rfl rfl) ?_
   refine d1q (i := 4) rfl (by kernel_rfl) (fun _ _ _ _ h => h) rfl rfl hn rfl (zD2 rfl rfl rfl (r := ((w / 16 : Nat) : Int)) (by omega) (quoN (b := 16) (by omega) (by omega))) ?_
   refine d1q (i := 5) rfl (by kernel_rfl) (fun _ _ _ _ h => h) rfl rfl hn rfl (zG rfl rfl) ?_
   refine d1q (i := 6) rfl (by kernel_rfl) (fun _ _ _ _ h => h) rfl rfl hn rfl (kG rfl rfl rfl (r := ((H - 1 : Nat) : Int)) (i64w (by omega) (by omega))) ?_
   refine d1q (i := 7) rfl (by kernel_rfl) (fun _ _ _ _ h => h) rfl rfl hn rfl (kF rfl rfl rfl (r := ((w / 16 % (H - 1) : Nat) : Int)) (by omega) (modN (by omega))) ?_
   refine d1q (i := 9) rfl (by kernel_rfl) (fun _ _ _ _ h => h) rfl rfl hn rfl (zG rfl rfl) ?_
   refine zL ?_
   refine ze (i := 1) (by kernel_rfl) rfl (zz _ [] (zJ rfl) rfl (nb hn rfl) (fun _ => trivial) (fun _ => zN rfl rfl (id := 18) rfl Tryz.underlying3 rfl rfl sees0)) fun _ => ?_
   refine d2_of_d1 ?_
   refine d1q (i := 2) rfl (by kernel_rfl) (fun _ _ _ _ h => h) rfl rfl hn rfl (zq rfl rfl rfl (r := ((f + 1 : Nat) : Int)) (i64w (by omega) (by omega))) ?_
   refine d1q (i := 8) rfl (by kernel_rfl) (fun _ _ _ _ h => h) rfl rfl hn rfl (zq rfl rfl rfl (r := ((f + 1 + w / 16 % (H - 1) : Nat) : Int)) (i64w (by have := Nat.mod_lt (w / 16) (show 0 < H - 1 by omega); omega) (by omega))) ?_
   refine d1q (i := 10) rfl (by kernel_rfl) (fun _ _ _ _ h => h) rfl rfl hn rfl (kF rfl rfl rfl (r := (((f + 1 + w / 16 % (H - 1)) % H : Nat) : Int)) (by omega) (modN (by omega))) ?_
   refine d1q (i := 11) rfl (by kernel_rfl) (fun _ _ _ _ h => h) rfl rfl hn rfl (zH rfl rfl Tryz.underlying105 rfl sz3) ?_
   refine zL ?_
   refine ze (i := 12) (by kernel_rfl) rfl (s_store1 rfl rfl rfl rfl rfl rfl (id := 18) rfl sz3 (Nat.le_of_ble_eq_true rfl) rfl trivial) fun _ => ?_
   refine d2_of_d1 (zL ?_)
   refine zl (by kernel_rfl) ?_
   refine zA (zC (zR (zC ?_)))
   obtain ⟨hft, htH⟩ := rot_ne (a := w / 16) hfH hdh.2
   obtain ⟨to, hto⟩ : ∃ to, (f + 1 + w / 16 % (H - 1)) % H = to := ⟨_, rfl⟩
   rw [hto] at hft htH
   rw [hto]
   have hol := hap.ol
   have hob := hap.ob
   refine z6 (W := fun b => b ≠ b13 ∧ b ≠ b18) fmo ?_
   refine d1q (i := 0) rfl (by kernel_rfl) (fun _ _ _ _ h => h) rfl rfl hn rfl (zH rfl rfl Tryz.underlying105 rfl sz3) ?_
   refine d1q (i := 1) rfl (by kernel_rfl) (fun _ _ _ _ h => h) rfl rfl hn rfl (zN rfl rfl (id := 18) rfl Tryz.underlying3 rfl rfl (seesA (by simp))) ?_
   refine d1q (i := 2) rfl (by kernel_rfl) (fun _ _ _ _ h => h) rfl rfl hn rfl (zH rfl rfl Tryz.underlying105 rfl sz3) ?_
   refine d1q (i := 3) rfl (by kernel_rfl) (fun _ _ _ _ h => h) rfl rfl hn rfl (zN rfl rfl (id := 18) rfl Tryz.underlying3 rfl rfl (seesA (by simp))) ?_
   refine d1q (i := 4) rfl (by kernel_rfl) (fun _ _ _ _ h => h) rfl rfl hn rfl (q_indexA (i := to) rfl rfl rfl Tryz.underlying96 sz94 rfl (by omega)) ?_
   refine d1q (i := 5) rfl (by kernel_rfl) (fun _ _ _ _ h => h) rfl rfl hn rfl (q_indexA (i := f) rfl rfl rfl Tryz.underlying94 sz3 rfl (by omega)) ?_
   refine d1q (i := 6) rfl (by kernel_rfl) (fun _ _ _ _ h => h) rfl rfl hn rfl (zN rfl rfl (id := 13) rfl Tryz.underlying3 rfl (at2 (getD_some (by omega))) (seesA (by simp))) ?_
   refine d1q (i := 7) rfl (by kernel_rfl) (fun _ _ _ _ h => h) rfl rfl hn rfl (yq rfl rfl rfl) ?_
   refine d1q (i := 8) rfl (by kernel_rfl) (fun _ _ _ _ h => h) rfl rfl hn rfl (zG rfl rfl) ?_
   refine d1g (i := 9) [] rfl (by kernel_rfl) (fun _ _ _ _ h => h) (zD rfl rfl rfl) rfl hn rfl (fun hc => trivial) (fun hc => zG rfl rfl) ?_
   refine d1g (i := 10) [(90, _)] rfl (by kernel_rfl) (fun _ _ _ _ h => h) (zD rfl rfl rfl) rfl hn rfl (fun hc => ⟨⟨_, rfl, hc⟩, trivial⟩) (fun hc => kF rfl rfl rfl (r := ((u % 2 : Nat) : Int)) (by omega) (modN (b := 2) (by omega))) ?_
   refine d1g (i := 11) [(91, _)] rfl (by kernel_rfl) (fun _ _ _ _ h => h) (zD rfl rfl rfl) rfl hn rfl (fun hc => ⟨⟨_, rfl, hc⟩, trivial⟩) (fun hc => yM rfl rfl rfl) ?_
   refine d1q (i := 12) rfl (by kernel_rfl) (fun _ _ _ _ h => h) rfl rfl hn rfl (yC rfl rfl rfl (by intro hB; first | (rw [hB]; rfl) | (rw [hB, hc]; rfl) | simp_all)) ?_
   refine d1q (i := 13) rfl (by kernel_rfl) (fun _ _ _ _ h => h) rfl rfl hn rfl (zF rfl rfl) ?_
   refine zL ?_
   refine zl (by kernel_rfl) ?_
   refine zA ?_
   refine yK (e := .normal) (ι := {p : Int × List Int // (p.1 = 2 ∧ 0 < op.getD (to * 4 + f) 0 ∧ p.2 = upd op (to * 4 + f) (-1)) ∨ (p.1 = 1 ∧ p.2 = upd op (f * 4 + to) 1) ∨ (p.1 = 0 ∧ p.2 = op)}) (fun x => anys [94, 95, 96, 97, 98, 99, 100, 101, 102, 103, 104, 106, 107, 108, 105, 109, 110, 111, 112, 113, 114, 115, 116, 117, 118, 119]) (fun x => [(18, .box b18 105 [.d (.int .i64 x.1.1), .d (.int .i64 (s : Nat)), .d (.int .i64 (f : Nat)), .d (.int .i64 (to : Nat)), .d (.int .i64 0), .d (.int .i64 0)]), (13, .box b13 96 (x.1.2.map intT))]) (fun hJ5 => ?_) ?_
   ·
    refine zQ rfl (fun hb5 => ?_) (fun hb5 => ?_)
    ·
     have hpos : 0 < op.getD (to * 4 + f) 0 := by simp only [Bool.and_eq_true, decide_eq_true_eq] at hb5; exact hb5.1
     have hog := hob _ (y9 (show to * 4 + f < op.length by omega))
     refine zC (zB ?_)
     refine sq rfl rfl hn rfl (zH rfl rfl Tryz.underlying105 rfl sz3) ?_
     refine stepW (s_store1 rfl rfl rfl rfl rfl rfl (id := 18) rfl sz3 (Nat.le_of_ble_eq_true rfl) rfl trivial) fun _ => ?_
     refine zE (zA ?_)
     refine z6 (W := fun b => b ≠ b18) fmo ?_
     refine d1q (i := 0) rfl (by kernel_rfl) (fun _ _ _ _ h => h) rfl rfl hn rfl (zH rfl rfl Tryz.underlying105 rfl sz3) ?_
     refine d1q (i := 1) rfl (by kernel_rfl) (fun _ _ _ _ h => h) rfl rfl hn rfl (zN rfl rfl (id := 18) rfl Tryz.underlying3 rfl rfl (seesA (by simp))) ?_
     refine d1q (i := 2) rfl (by kernel_rfl) (fun _ _ _ _ h => h) rfl rfl hn rfl (zH rfl rfl Tryz.underlying105 rfl sz3) ?_
     refine d1q (i := 3) rfl (by kernel_rfl) (fun _ _ _ _ h => h) rfl rfl hn rfl (zN rfl rfl (id := 18) rfl Tryz.underlying3 rfl rfl (seesA (by simp))) ?_
     refine d1q (i := 4) rfl (by kernel_rfl) (fun _ _ _ _ h => h) rfl rfl hn rfl (q_indexA (i := to) rfl rfl rfl Tryz.underlying96 sz94 rfl (by omega)) ?_
     refine d1q (i := 5) rfl (by kernel_rfl) (fun _ _ _ _ h => h) rfl rfl hn rfl (q_indexA (i := f) rfl rfl rfl Tryz.underlying94 sz3 rfl (by omega)) ?_
     refine d1q (i := 8) rfl (by kernel_rfl) (fun _ _ _ _ h => h) rfl rfl hn rfl (q_indexA (i := to) rfl rfl rfl Tryz.underlying96 sz94 rfl (by omega)) ?_
     refine zL ?_
     refine ze (i := 6) (by kernel_rfl) rfl (zz _ [] (zJ rfl) rfl (nb hn rfl) (fun _ => trivial) (fun _ => zN rfl rfl (id := 13) rfl Tryz.underlying3 rfl (at2 (getD_some (by omega))) sees0)) fun _ => ?_
     refine d2_of_d1 ?_
     refine d1q (i := 7) rfl (by kernel_rfl) (fun _ _ _ _ h => h) rfl rfl hn rfl (kG rfl rfl rfl (r := op.getD (to * 4 + f) 0 + (-1)) (i64w (by omega) (by omega))) ?_
     refine d1q (i := 9) rfl (by kernel_rfl) (fun _ _ _ _ h => h) rfl rfl hn rfl (q_indexA (i := f) rfl rfl rfl Tryz.underlying94 sz3 rfl (by omega)) ?_
     refine zL ?_
     refine yJ (i := 13) (j := 18) rfl rfl rfl (fun hne13_18 => ?_)
     refine ze (i := 10) (by kernel_rfl) rfl (s_store1 rfl rfl rfl rfl rfl rfl (id := 13) rfl sz3 (by simp; omega) (show _ = (upd op (to * 4 + f) (-1)).map intT from set2) (fun e => hne13_18 _ rfl (congrArg some e.symm))) fun _ => ?_
     refine d2_of_d1 (zL ?_)
     refine zl (by kernel_rfl) ?_
     exact aend_join_on hJ5 ⟨(2, upd op (to * 4 + f) (-1)), .inl ⟨rfl, hpos, rfl⟩⟩ (zK _) ⟨.inl rfl, .inl rfl, trivial⟩ (by repeat (first | exact kr _ | refine kc rfl ?_)) (by repeat (first | exact kr _ | refine kc rfl ?_))
    ·
     refine zC (zB ?_)
     refine sq rfl rfl hn rfl (zG rfl rfl) ?_
     refine sq rfl rfl hn rfl (kF rfl rfl rfl (r := ((u % 3 : Nat) : Int)) (by omega) (modN (b := 3) (by omega))) ?_
     refine sq rfl rfl hn rfl (yM rfl rfl rfl) ?_
     refine sq rfl rfl hn rfl (zF rfl rfl) ?_
     refine zE (zA ?_)
     refine zQ rfl (fun hb6 => ?_) (fun hb6 => ?_)
     ·
      have hog := hob _ (y9 (show f * 4 + to < op.length by omega))
      refine zC (zB ?_)
      refine sq rfl rfl hn rfl (zH rfl rfl Tryz.underlying105 rfl sz3) ?_
      refine stepW (s_store1 rfl rfl rfl rfl rfl rfl (id := 18) rfl sz3 (Nat.le_of_ble_eq_true rfl) rfl trivial) fun _ => ?_
      refine zE (zA ?_)
      refine z6 (W := fun b => b ≠ b18) fmo ?_
      refine d1q (i := 0) rfl (by kernel_rfl) (fun _ _ _ _ h => h) rfl rfl hn rfl (zH rfl rfl Tryz.underlying105 rfl sz3) ?_
      refine d1q (i := 1) rfl (by kernel_rfl) (fun _ _ _ _ h => h) rfl rfl hn rfl (zN rfl rfl (id := 18) rfl Tryz.underlying3 rfl rfl (seesA (by simp))) ?_
      refine d1q (i := 2) rfl (by kernel_rfl) (fun _ _ _ _ h => h) rfl rfl hn rfl (zH rfl rfl Tryz.underlying105 rfl sz3) ?_
      refine d1q (i := 3) rfl (by kernel_rfl) (fun _ _ _ _ h => h) rfl rfl hn rfl (zN rfl rfl (id := 18) rfl Tryz.underlying3 rfl rfl (seesA (by simp))) ?_
      refine d1q (i := 4) rfl (by kernel_rfl) (fun _ _ _ _ h => h) rfl rfl hn rfl (q_indexA (i := f) rfl rfl rfl Tryz.underlying96 sz94 rfl (by omega)) ?_
      refine d1q (i := 5) rfl (by kernel_rfl) (fun _ _ _ _ h => h) rfl rfl hn rfl (q_indexA (i := to) rfl rfl rfl Tryz.underlying94 sz3 rfl (by omega)) ?_
      refine d1q (i := 8) rfl (by kernel_rfl) (fun _ _ _ _ h => h) rfl rfl hn rfl (q_indexA (i := f) rfl rfl rfl Tryz.underlying96 sz94 rfl (by omega)) ?_
      refine zL ?_
      refine ze (i := 6) (by kernel_rfl) rfl (zz _ [] (zJ rfl) rfl (nb hn rfl) (fun _ => trivial) (fun _ => zN rfl rfl (id := 13) rfl Tryz.underlying3 rfl (at2 (getD_some (by omega))) sees0)) fun _ => ?_
      refine d2_of_d1 ?_
      refine d1q (i := 7) rfl (by kernel_rfl) (fun _ _ _ _ h => h) rfl rfl hn rfl (zq rfl rfl rfl (r := op.getD (f * 4 + to) 0 + 1) (i64w (by omega) rfl)) ?_
      refine d1q (i := 9) rfl (by kernel_rfl) (fun _ _ _ _ h => h) rfl rfl hn rfl (q_indexA (i := to) rfl rfl rfl Tryz.underlying94 sz3 rfl (by omega)) ?_
      refine zL ?_
      refine yJ (i := 13) (j := 18) rfl rfl rfl (fun hne13_18 => ?_)
      refine ze (i := 10) (by kernel_rfl) rfl (s_store1 rfl rfl rfl rfl rfl rfl (id := 13) rfl sz3 (by simp; omega) (show _ = (upd op (f * 4 + to) 1).map intT from set2) (fun e => hne13_18 _ rfl (congrArg some e.symm))) fun _ => ?_
      refine d2_of_d1 (zL ?_)
      refine zl (by kernel_rfl) ?_
      exact aend_join_on hJ5 ⟨(1, upd op (f * 4 + to) 1), .inr (.inl ⟨rfl, rfl⟩)⟩ (zK _) ⟨.inl rfl, .inl rfl, trivial⟩ (by repeat (first | exact kr _ | refine kc rfl ?_)) (by repeat (first | exact kr _ | refine kc rfl ?_))
     ·
      refine zT ?_
      exact aend_join_on hJ5 ⟨(0, op), .inr (.inr ⟨rfl, rfl⟩)⟩ (zK _) ⟨.inl rfl, .inl rfl, trivial⟩ (by repeat (first | exact kr _ | refine kc rfl ?_)) (by repeat (first | exact kr _ | refine kc rfl ?_))
   ·
    rintro ⟨⟨kd, op2⟩, hkd⟩
    dsimp only
    dsimp only at hkd
    refine zX (zA (zC (zB ?_)))
    refine sq rfl rfl hn rfl (zG rfl rfl) ?_
    refine sq rfl rfl hn rfl (zH rfl rfl Tryz.underlying105 rfl sz3) ?_
    refine sq rfl rfl hn rfl (zN rfl rfl (id := 18) rfl Tryz.underlying3 rfl rfl sees0) ?_
    refine sq rfl rfl hn rfl (zH rfl rfl Tryz.underlying105 rfl sz3) ?_
    refine sq rfl rfl hn rfl (zN rfl rfl (id := 18) rfl Tryz.underlying3 rfl rfl sees0) ?_
    refine sq rfl rfl hn rfl (q_indexV (i := s) rfl rfl rfl Tryz.underlying22 sz3 rfl hsl) ?_
    refine stepW (s_store1 rfl rfl rfl rfl rfl rfl (id := 1010) rfl sz3 (by show 0 + s * 1 < _; rw [List.length_append, zF5]; omega) (c1_set (show s < now.length by omega) (by show 0 + s * 1 = s; omega)) trivial) fun _ => ?_
    refine zE (zA (zC (zB ?_)))
    refine sq rfl rfl hn rfl (zG rfl rfl) ?_
    refine sq rfl rfl hn rfl (zG rfl rfl) ?_
    refine sq rfl rfl hn rfl (zD2 rfl rfl rfl (r := ((u / 8 : Nat) : Int)) (by omega) (quoN (b := 8) (by omega) (by omega))) ?_
    refine sq rfl rfl hn rfl (kF rfl rfl rfl (r := ((u / 8 % 3 : Nat) : Int)) (by omega) (modN (b := 3) (by omega))) ?_
    refine sq rfl rfl hn rfl (kG rfl rfl rfl (r := ((day + w % 3 : Nat) : Int) - ((u / 8 % 3 : Nat) : Int)) (i64w (by omega) rfl)) ?_
    refine sq rfl rfl hn rfl (zCl rfl rfl rfl) ?_
    refine sq rfl rfl hn rfl (zG rfl rfl) ?_
    refine sq rfl rfl hn rfl (zG rfl rfl) ?_
    refine sq rfl rfl hn rfl (zD2 rfl rfl rfl (r := ((u / 32 : Nat) : Int)) (by omega) (quoN (b := 32) (by omega) (by omega))) ?_
    refine sq rfl rfl hn rfl (kF rfl rfl rfl (r := ((u / 32 % 3 : Nat) : Int)) (by omega) (modN (b := 3) (by omega))) ?_
    refine sq rfl rfl hn rfl (zq rfl rfl rfl (r := ((day + w % 3 : Nat) : Int) + ((u / 32 % 3 : Nat) : Int)) (i64w (by omega) rfl)) ?_
    refine sq rfl rfl hn rfl (zGG rfl rfl rfl) ?_
    refine sq rfl rfl hn rfl (zt rfl bt103 rfl rfl rfl rfl rfl) ?_
    refine sq rfl rfl hn rfl (zH rfl rfl Tryz.underlying105 rfl sz103) ?_
    refine stepW (zh rfl rfl rfl rfl rfl rfl (id := 18) rfl sz103 rfl (Nat.le_of_ble_eq_true rfl) rfl trivial) fun _ => ?_
    refine zE (zA (zB ?_))
    refine sq rfl rfl hn rfl (zH rfl rfl Tryz.underlying26 rfl sz23) ?_
    refine sq rfl rfl hn rfl (zN rfl rfl (id := 10) rfl Tryz.underlying23 rfl rfl sees0) ?_
    refine sq rfl rfl hn rfl (za rfl rfl (id := 18) rfl Tryz.underlying105 rfl sz105 rfl rfl sees0) ?_
    refine stepW (zb rfl rfl rfl (nb hn rfl) Tryz.underlying23 sz105 zr105 rfl rfl rfl (show _ = [.d (.int .i64 0), .d (.int .i64 0), .d (.int .i64 0), .d (.int .i64 0), .d (.int .i64 0), .d (.int .i64 0)] from by kernel_rfl) (by kernel_rfl) rfl (zAK (by kernel_rfl) rfl) (kh _) (zBo rfl) (zAO rfl)) fun _ => ?_
    refine stepW (s_append (id := 1020) rfl rfl rfl (nb hn rfl) elt23 trivial rfl rfl rfl (by simp; omega) (by simp; omega) (fun b hb => trivial)) fun v144 => ?_
    refine sq rfl rfl hn rfl (zG rfl rfl) ?_
    refine sq rfl rfl hn rfl (zG rfl rfl) ?_
    refine stepW (zb rfl rfl rfl (nb hn rfl) Tryz.underlying22 sz3 zr3 rfl rfl rfl (show _ = [.d (.int .i64 0)] from by kernel_rfl) (by kernel_rfl) rfl rfl rfl rfl rfl) fun _ => ?_
    refine stepW (s_append (id := 12) rfl rfl rfl (nb hn rfl) elt22 trivial rfl rfl rfl (by simp [chunk]; omega) (by simp [chunk]; omega) (fun b hb => trivial)) fun v148 => ?_
    refine sq rfl rfl hn rfl (zH rfl rfl Tryz.underlying26 rfl sz23) ?_
    refine stepW (s_storeRow rfl rfl rfl rfl rfl (rid := 1020) rfl (id := 10) rfl sz23 (Nat.le_of_ble_eq_true rfl) rfl trivial) fun _ => ?_
    refine sq rfl rfl hn rfl (zF rfl rfl) ?_
    refine zE (zX (zA (zB ?_)))
    refine sq rfl rfl hn rfl (zG rfl rfl) ?_
    refine sq rfl rfl hn rfl (zq rfl rfl rfl (r := ((i + 1 : Nat) : Int)) (i64w (by omega) (by omega))) ?_
    refine sq rfl rfl hn rfl (zF rfl rfl) ?_
    refine zE ?_
    exact zU ⟨((i + 1, day + w % 3), (now.set s (to : Nat), op2), (es ++ [⟨kd, (s : Nat), (f : Nat), (to : Nat), max 0 (((day + w % 3 : Nat) : Int) - ((u / 8 % 3 : Nat) : Int)), min 9 (((day + w % 3 : Nat) : Int) + ((u / 32 % 3 : Nat) : Int))⟩], ts ++ [((day + w % 3 : Nat) : Int)]), v144, v148), by simp only; omega, by simp only; omega, (hap.idle (day' := day + w % 3) (by omega)).stepN (by omega) hsl hs4 hf (by omega) hft (by omega) (by omega) hkd⟩ ⟨.inl rfl, .inl rfl, .inl rfl, zK _⟩ ⟨.inl rfl, .inl (congrArg (fun z => some (Res.row v144 105 6 z)) (ents_add (e := ⟨kd, (s : Nat), (f : Nat), (to : Nat), max 0 (((day + w % 3 : Nat) : Int) - ((u / 8 % 3 : Nat) : Int)), min 9 (((day + w % 3 : Nat) : Int) + ((u / 32 % 3 : Nat) : Int))⟩))), .inl (congrArg (fun z => some (Res.row v148 3 1 z)) (ints_add (x := ((day + w % 3 : Nat) : Int)))), .inl rfl, .inl rfl, zW _⟩ (by simp only; omega) (by repeat (first | exact kr _ | refine kc rfl ?_)) (by repeat (first | exact kr _ | refine kc rfl ?_))
 ·
  refine zk (zI (zI (zS (zA (zC (zC ?_))))))
  have hi7 : i ≤ 6 := by omega
  obtain ⟨v0, ds, T, hdl, hag⟩ := hap.reg v hi7
  have hrp := zDZ v0 T
  have hout := zAo v0 ts
  obtain ⟨o, ho⟩ : ∃ o, (refPlay (hapReg (H : Int) start es []) ts).1 = o := ⟨_, rfl⟩
  rw [ho] at hout hag
  refine zw (gh_rowcell (id := 10) (k := 2) (rid := 1020) rfl rfl rfl) ?_
  refine zB ?_
  refine sq rfl rfl hn rfl (za rfl rfl (id := 10) rfl Tryz.underlying26 rfl sz26 rfl rfl sees0) ?_
  refine sq rfl rfl hn rfl (zG rfl rfl) ?_
  refine yf (g_row (t := 151) (id := 12) rfl rfl) ?_
  refine stepW (s_call [] (fun _ => zDT (hapReg (H : Int) start es []) ts) rfl (zJ rfl) rfl (nb hn rfl) (fun _ => trivial) rfl rfl (by first | exact .refl _ | (repeat (first | exact .refl _ | exact .nil _ | refine .cons ?_ ?_ | refine .agg ?_ | refine .tup ?_)))) fun _ => ?_
  refine sq rfl rfl hn rfl (yE rfl rfl) ?_
  refine zE (zA ?_)
  refine zQ rfl (fun hb7 => ?_) (fun hb7 => ?_)
  ·
   exact absurd hb7 (by rw [show datedF (hapReg (H : Int) start es []).entries ts = true from hap.da]; simp)
  ·
   refine zT (zA (zC (zB ?_)))
   refine sq rfl rfl hn rfl (za rfl rfl (id := 10) rfl Tryz.underlying26 rfl sz26 rfl rfl sees0) ?_
   refine sq rfl rfl hn rfl (zG rfl rfl) ?_
   refine yf (g_row (t := 158) (id := 12) rfl rfl) ?_
   refine stepW (s_call [] (fun _ => (by have h6 := zBa (hapReg (H : Int) start es []) ts v0 hap.tl; rw [hrp, ho] at h6; exact h6)) rfl (zJ rfl) rfl (nb hn rfl) (fun _ => trivial) rfl rfl (by first | exact .refl _ | (repeat (first | exact .refl _ | exact .nil _ | refine .cons ?_ ?_ | refine .agg ?_ | refine .tup ?_)))) fun _ => ?_
   refine sq rfl rfl hn rfl (zG rfl rfl) ?_
   refine sq rfl rfl hn rfl (zY rfl rfl rfl) ?_
   refine sq rfl rfl hn rfl (zY rfl rfl rfl) ?_
   refine stepW (zg 19 rfl rfl rfl (nb hn rfl) zr99 (zerosT 200) (by kernel_rfl)) fun b19 => ?_
   refine stepW (zh rfl rfl rfl rfl rfl rfl (id := 19) rfl sz99 (y4 hout) (Nat.le_of_ble_eq_true rfl) (kY (by simp)) trivial) fun _ => ?_
   refine sq rfl rfl hn rfl (zF rfl rfl) ?_
   refine zE (zA (zC (zC ?_)))
   refine zw (gh_nilcell (id := 10) (k := 3) 1021 106 3 rfl rfl) ?_
   refine zB ?_
   refine sq rfl rfl hn rfl (zF rfl rfl) ?_
   refine zE (zA (zR ?_))
   refine awp_loop_on (ι := {x : Nat × List Sight5 × Value // x.1 ≤ wordN words 5 % 5 ∧ x.2.1.length ≤ x.1 ∧ ∀ s ∈ x.2.1, (0 ≤ s.sheet ∧ s.sheet ≤ (start.length : Int) - 1) ∧ (0 ≤ s.day ∧ s.day ≤ 9) ∧ s.house = houseAt o s.day.toNat s.sheet.toNat}) (fun x => (21, true, .d (.int .i64 (x.1.1 : Nat))) :: anys [162, 163, 164, 165, 166, 167, 168, 169, 172, 173, 174, 175, 176, 22, 177, 178, 179, 180, 181, 182, 183, 184, 23, 185, 186, 187, 188, 189, 190, 191, 192, 193, 194, 195, 196, 197, 198, 199, 170, 171]) (fun x => (10, .box b10 26 [.d (.int .i64 (H : Nat)), .d (ints start), .d (entsD es), .val x.1.2.2]) :: (1021, .row x.1.2.2 106 3 (x.1.2.1.map sightE)) :: gones [23]) (fun x => wordN words 5 % 5 - x.1.1) ⟨(0, [], .slice none 0 0), Nat.zero_le _, Nat.le_refl _, fun _ h => (by cases h)⟩ ⟨.inl rfl, zK _⟩ ⟨.inl rfl, .inl rfl, zW _⟩ ?_
   rintro ⟨⟨k, si, vS⟩, hk5, hsi, hsp⟩
   dsimp only
   dsimp only at hk5 hsi hsp
   refine zC (zC (zB ?_))
   refine sq rfl rfl hn rfl (zG rfl rfl) ?_
   refine sq rfl rfl hn rfl (zG rfl rfl) ?_
   refine stepW (s_call [] (fun _ => zBD words 5 hw5) rfl (zJ rfl) rfl (nb hn rfl) (fun _ => trivial) rfl rfl (.refl _)) fun _ => ?_
   refine sq rfl rfl hn rfl (kF rfl rfl rfl (r := ((wordN words 5 % 5 : Nat) : Int)) (by omega) (modN (b := 5) (by omega))) ?_
   refine sq rfl rfl hn rfl (yB rfl rfl rfl) ?_
   refine sq rfl rfl hn rfl (zG rfl rfl) ?_
   refine stepG [] (zD rfl rfl rfl) rfl (nb hn rfl) (fun hc => trivial) (fun hc => zG rfl rfl) ?_
   refine sq rfl rfl hn rfl (yC rfl rfl rfl (by intro hB; first | (rw [hB]; rfl) | (rw [hB, hc]; rfl) | simp_all)) ?_
   refine zE (zA ?_)
   refine zQ rfl (fun hb8 => ?_) (fun hb8 => ?_)
   ·
    have hkl : k < wordN words 5 % 5 := by simp at hb8; omega
    refine zT (zA (zC (zR (zC (zB ?_)))))
    refine sq rfl rfl hn rfl (zG rfl rfl) ?_
    refine sq rfl rfl hn rfl (zG rfl rfl) ?_
    refine sq rfl rfl hn rfl (zEs rfl rfl rfl (r := ((3 * k : Nat) : Int)) (i64w (by omega) (by omega))) ?_
    refine sq rfl rfl hn rfl (zq rfl rfl rfl (r := ((3 * k + 2 : Nat) : Int)) (i64w (by omega) (by omega))) ?_
    refine stepW (s_call [] (fun _ => zBD words (3 * k + 2) hw5) rfl (zJ rfl) rfl (nb hn rfl) (fun _ => trivial) rfl rfl (.refl _)) fun _ => ?_
    refine sq rfl rfl hn rfl (zF rfl rfl) ?_
    refine zE (zA (zC ?_))
    obtain ⟨q, hq⟩ : ∃ q, wordN words (3 * k + 2) = q := ⟨_, rfl⟩
    have hql : q < 65536 := hq ▸ zBm hw5
    rw [hq]
    have hqm := Nat.mod_lt q (show 0 < start.length by omega)
    refine zB ?_
    refine sq rfl rfl hn rfl (zG rfl rfl) ?_
    refine sq rfl rfl hn rfl (zG rfl rfl) ?_
    refine sq rfl rfl hn rfl (zu rfl rfl Tryz.underlying22) ?_
    refine sq rfl rfl hn rfl (kF rfl rfl rfl (r := ((q % start.length : Nat) : Int)) (by simp only [List.length_map]; omega) (by simp only [List.length_map]; exact modN (by omega))) ?_
    refine sq rfl rfl hn rfl (zG rfl rfl) ?_
    refine sq rfl rfl hn rfl (zD2 rfl rfl rfl (r := ((q / 8 : Nat) : Int)) (by omega) (quoN (b := 8) (by omega) (by omega))) ?_
    refine sq rfl rfl hn rfl (kF rfl rfl rfl (r := ((q / 8 % 10 : Nat) : Int)) (by omega) (modN (b := 10) (by omega))) ?_
    refine sq rfl rfl hn rfl (zt rfl bt106 rfl rfl rfl rfl rfl) ?_
    refine stepW (zg 23 rfl rfl rfl (nb hn rfl) zr106 rfl rfl) fun b23 => ?_
    refine stepW (zh rfl rfl rfl rfl rfl rfl (id := 23) rfl sz106 rfl (Nat.le_of_ble_eq_true rfl) rfl trivial) fun _ => ?_
    refine zE (zA (zC ?_))
    refine yK (e := .normal) (ι := Unit) (fun x => anys [185, 186, 187, 188, 189, 190, 191, 192, 193]) (fun x => [(23, .box b23 106 [.d (.int .i64 ((q % start.length : Nat) : Int)), .d (.int .i64 (houseAt o (q / 8 % 10) (q % start.length))), .d (.int .i64 ((q / 8 % 10 : Nat) : Int))])]) (fun hJ9 => ?_) ?_
    ·
     refine z6 (W := fun b => b ≠ b19) fmo ?_
     refine d1q (i := 0) rfl (by kernel_rfl) (fun _ _ _ _ h => h) rfl rfl hn rfl (zH rfl rfl Tryz.underlying106 rfl sz3) ?_
     refine d1q (i := 2) rfl (by kernel_rfl) (fun _ _ _ _ h => h) rfl rfl hn rfl (zH rfl rfl Tryz.underlying106 rfl sz3) ?_
     refine d1q (i := 4) rfl (by kernel_rfl) (fun _ _ _ _ h => h) rfl rfl hn rfl (zH rfl rfl Tryz.underlying99 rfl sz95) ?_
     refine zL ?_
     refine yW 1 [3] (by kernel_rfl) ⟨?_, ?_, trivial⟩
     ·
      refine br rfl (zz _ [] (zJ rfl) rfl (nb hn rfl) (fun _ => trivial) (fun _ => zN rfl rfl (id := 23) rfl Tryz.underlying3 rfl rfl sees0)) fun _ => ?_
      refine d2_of_d1 ?_
      refine d1q (i := 5) rfl (by kernel_rfl) (fun _ _ _ _ h => h) rfl rfl hn rfl (q_indexA (i := q / 8 % 10) rfl rfl rfl Tryz.underlying95 sz94 rfl (by omega)) ?_
      refine zL ?_
      refine ze (i := 3) (by kernel_rfl) rfl (zz _ [] (zJ rfl) rfl (nb hn rfl) (fun _ => trivial) (fun _ => zN rfl rfl (id := 23) rfl Tryz.underlying3 rfl rfl sees0)) fun _ => ?_
      refine d2_of_d1 ?_
      refine d1q (i := 6) rfl (by kernel_rfl) (fun _ _ _ _ h => h) rfl rfl hn rfl (q_indexA (i := q % start.length) rfl rfl rfl Tryz.underlying94 sz3 rfl (by omega)) ?_
      refine d1q (i := 7) rfl (by kernel_rfl) (fun _ _ _ _ h => h) rfl rfl hn rfl (zN rfl rfl (id := 19) rfl Tryz.underlying3 rfl (at0 (by show 0 + 0 + (q / 8 % 10) * 4 + (q % start.length) * 1 = (q / 8 % 10) * 4 + (q % start.length); omega) (getD_some (by omega))) (seesA (by simp))) ?_
      refine d1q (i := 8) rfl (by kernel_rfl) (fun _ _ _ _ h => h) rfl rfl hn rfl (zH rfl rfl Tryz.underlying106 rfl sz3) ?_
      refine zL ?_
      refine yJ (i := 23) (j := 19) rfl rfl rfl (fun hne23_19 => ?_)
      refine ze (i := 9) (by kernel_rfl) rfl (s_store1 rfl rfl rfl rfl rfl rfl (id := 23) rfl sz3 (Nat.le_of_ble_eq_true rfl) rfl (fun e => hne23_19 _ rfl (congrArg some e.symm))) fun _ => ?_
      refine d2_of_d1 (zL ?_)
      refine zl (by kernel_rfl) ?_
      exact aend_join_on hJ9 () (zK _) ⟨.inl rfl, trivial⟩ (by repeat (first | exact kr _ | refine kc rfl ?_)) (by repeat (first | exact kr _ | refine kc rfl ?_))
     ·
      refine br rfl (zz _ [] (zJ rfl) rfl (nb hn rfl) (fun _ => trivial) (fun _ => zN rfl rfl (id := 23) rfl Tryz.underlying3 rfl rfl sees0)) fun _ => ?_
      refine d2_of_d1 (zL ?_)
      refine ze (i := 1) (by kernel_rfl) rfl (zz _ [] (zJ rfl) rfl (nb hn rfl) (fun _ => trivial) (fun _ => zN rfl rfl (id := 23) rfl Tryz.underlying3 rfl rfl sees0)) fun _ => ?_
      refine d2_of_d1 ?_
      refine d1q (i := 5) rfl (by kernel_rfl) (fun _ _ _ _ h => h) rfl rfl hn rfl (q_indexA (i := q / 8 % 10) rfl rfl rfl Tryz.underlying95 sz94 rfl (by omega)) ?_
      refine d1q (i := 6) rfl (by kernel_rfl) (fun _ _ _ _ h => h) rfl rfl hn rfl (q_indexA (i := q % start.length) rfl rfl rfl Tryz.underlying94 sz3 rfl (by omega)) ?_
      refine d1q (i := 7) rfl (by kernel_rfl) (fun _ _ _ _ h => h) rfl rfl hn rfl (zN rfl rfl (id := 19) rfl Tryz.underlying3 rfl (at0 (by show 0 + 0 + (q / 8 % 10) * 4 + (q % start.length) * 1 = (q / 8 % 10) * 4 + (q % start.length); omega) (getD_some (by omega))) (seesA (by simp))) ?_
      refine d1q (i := 8) rfl (by kernel_rfl) (fun _ _ _ _ h => h) rfl rfl hn rfl (zH rfl rfl Tryz.underlying106 rfl sz3) ?_
      refine zL ?_
      refine yJ (i := 23) (j := 19) rfl rfl rfl (fun hne23_19 => ?_)
      refine ze (i := 9) (by kernel_rfl) rfl (s_store1 rfl rfl rfl rfl rfl rfl (id := 23) rfl sz3 (Nat.le_of_ble_eq_true rfl) rfl (fun e => hne23_19 _ rfl (congrArg some e.symm))) fun _ => ?_
      refine d2_of_d1 (zL ?_)
      refine zl (by kernel_rfl) ?_
      exact aend_join_on hJ9 () (zK _) ⟨.inl rfl, trivial⟩ (by repeat (first | exact kr _ | refine kc rfl ?_)) (by repeat (first | exact kr _ | refine kc rfl ?_))
    ·
     rintro _
     refine zA (zB ?_)
     refine sq rfl rfl hn rfl (zH rfl rfl Tryz.underlying26 rfl sz24) ?_
     refine sq rfl rfl hn rfl (zN rfl rfl (id := 10) rfl Tryz.underlying24 rfl rfl sees0) ?_
     refine sq rfl rfl hn rfl (za rfl rfl (id := 23) rfl Tryz.underlying106 rfl sz106 rfl rfl sees0) ?_
     refine stepW (zb rfl rfl rfl (nb hn rfl) Tryz.underlying24 sz106 zr106 rfl rfl rfl (show _ = [.d (.int .i64 0), .d (.int .i64 0), .d (.int .i64 0)] from by kernel_rfl) (by kernel_rfl) rfl (zAK (by kernel_rfl) rfl) (kh _) (zBo rfl) (zAO rfl)) fun _ => ?_
     refine stepW (s_append (id := 1021) rfl rfl rfl (nb hn rfl) elt24 trivial rfl rfl rfl (by simp; omega) (by simp; omega) (fun b hb => trivial)) fun v198 => ?_
     refine sq rfl rfl hn rfl (zH rfl rfl Tryz.underlying26 rfl sz24) ?_
     refine stepW (s_storeRow rfl rfl rfl rfl rfl (rid := 1021) rfl (id := 10) rfl sz24 (Nat.le_of_ble_eq_true rfl) rfl trivial) fun _ => ?_
     refine zE (zX (zA (zB ?_)))
     refine sq rfl rfl hn rfl (zG rfl rfl) ?_
     refine sq rfl rfl hn rfl (zq rfl rfl rfl (r := ((k + 1 : Nat) : Int)) (i64w (by omega) (by omega))) ?_
     refine sq rfl rfl hn rfl (zF rfl rfl) ?_
     refine zE ?_
     exact zU ⟨(k + 1, si ++ [⟨(q % start.length : Nat), houseAt o (q / 8 % 10) (q % start.length), (q / 8 % 10 : Nat)⟩], v198), by simp only; omega, by simp; omega, fun s hs => by rcases List.mem_append.1 hs with hs | hs; exact hsp s hs; rw [List.mem_singleton] at hs; subst hs; exact ⟨⟨by show (0 : Int) ≤ ((q % start.length : Nat) : Int); omega, by show ((q % start.length : Nat) : Int) ≤ _; omega⟩, ⟨by show (0 : Int) ≤ ((q / 8 % 10 : Nat) : Int); omega, by show ((q / 8 % 10 : Nat) : Int) ≤ _; omega⟩, rfl⟩⟩ ⟨.inl rfl, zK _⟩ ⟨.inl rfl, .inl (congrArg (fun z => some (Res.row v198 106 3 z)) (zDF (x := ⟨((q % start.length : Nat) : Int), houseAt o (q / 8 % 10) (q % start.length), ((q / 8 % 10 : Nat) : Int)⟩))), zW _⟩ (by simp only; omega) (by repeat (first | exact kr _ | refine kc rfl ?_)) (by repeat (first | exact kr _ | refine kc rfl ?_))
   ·
    refine zk (zI (zI (zS (zA (zC ?_)))))
    have hst5 := sights_truth v0 rfl T hdl (by rw [ho]; exact hag) (show si.length ≤ 4 by omega) (fun s hs => by rw [ho]; exact hsp s hs)
    refine zw (gh_rowcell (id := 10) (k := 3) (rid := 1021) rfl rfl rfl) ?_
    refine zB ?_
    refine sq rfl rfl hn rfl (za rfl rfl (id := 10) rfl Tryz.underlying26 rfl sz26 rfl rfl sees0) ?_
    refine sq rfl rfl hn rfl (zG rfl rfl) ?_
    refine stepW (zh rfl rfl rfl rfl rfl rfl (id := 8) rfl sz26 rfl (Nat.le_of_ble_eq_true rfl) rfl trivial) fun _ => ?_
    refine sq rfl rfl hn rfl (zF rfl rfl) ?_
    refine zE (zA (zP ?_))
    refine yp (g_row (t := 9) (id := 12) rfl rfl) ?_
    exact ret_E (.inl rfl) ⟨(⟨(H : Int), start, es, si⟩, ts), rfl, rfl, hst5.1, ⟨ds, hst5.2⟩, zFX hap v hi7 si⟩ (yV rfl (.d (.cellA rfl (id := 8) rfl Tryz.underlying26 rfl sz26 rfl rfl)) (.tmp rfl)) trivial
end Go.Proofs.YtaokpncjemkhcaaGreat
namespace Go.Proofs.YtaokpncjemkhcaaGreat
open Go.RowKit
set_option maxRecDepth 20000
set_option linter.all false
theorem sz50 : Sz Tryz.prog 50 7 := (by kernel_rfl : (Tryz.prog.info? 50).map (·.size) = some 7)
theorem sz88 : Sz Tryz.prog 88 3 := (by kernel_rfl : (Tryz.prog.info? 88).map (·.size) = some 3)
theorem zAZ (n lo hi : Int) : PureAt Tryz.prog 69 [.int .i64 n, .int .i64 lo, .int .i64 hi] (.bool (decide (lo ≤ n) && decide (n ≤ hi))) := by
 refine PureAt.of_awp Tryz.func69 rfl (by kernel_rfl) (Nat.le_of_ble_eq_true rfl) fun Γ hn hl => ?_
 refine zC (zB ?_)
 refine sq rfl rfl hn rfl (zF rfl rfl) ?_
 refine zE (zA (zC (zB ?_)))
 refine sq rfl rfl hn rfl (zG rfl rfl) ?_
 refine sq rfl rfl hn rfl (zG rfl rfl) ?_
 refine sq rfl rfl hn rfl (zAS rfl rfl rfl) ?_
 refine sq rfl rfl hn rfl (zG rfl rfl) ?_
 refine stepG [] (zD rfl rfl rfl) rfl (nb hn rfl) (fun hc => trivial) (fun hc => zG rfl rfl) ?_
 refine stepG [] (zD rfl rfl rfl) rfl (nb hn rfl) (fun hc => trivial) (fun hc => zG rfl rfl) ?_
 refine stepG [(11, _), (12, _)] (zD rfl rfl rfl) rfl (nb hn rfl) (fun hc => ⟨⟨_, rfl, hc⟩, ⟨_, rfl, hc⟩, trivial⟩) (fun hc => zAS rfl rfl rfl) ?_
 refine sq rfl rfl hn rfl (yC rfl rfl rfl (by intro hB; first | (rw [hB]; rfl) | (rw [hB, hc]; rfl) | simp_all)) ?_
 refine sq rfl rfl hn rfl (zF rfl rfl) ?_
 refine zE (zA (zP ?_))
 exact zm (.inl rfl) hl rfl (.tmp rfl)
theorem zD6 (l : Ldg) (n : Int) : PureAt Tryz.prog 98 [ldgD l, .int .i64 n] (.bool (houseB l.reg n)) := by
 refine PureAt.of_awp Tryz.func98 rfl (by kernel_rfl) (Nat.le_of_ble_eq_true rfl) fun Γ hn hl => ?_
 refine zC (zB ?_)
 refine stepW (zr 2 rfl rfl rfl (nb hn rfl) rfl rfl) fun b2 => ?_
 refine sq rfl rfl hn rfl (zF rfl rfl) ?_
 refine zE (zA (zC (zB ?_)))
 refine sq rfl rfl hn rfl (zG rfl rfl) ?_
 refine sq rfl rfl hn rfl (zH rfl rfl Tryz.underlying50 rfl sz44) ?_
 refine sq rfl rfl hn rfl (zH rfl rfl Tryz.underlying44 rfl sz3) ?_
 refine sq rfl rfl hn rfl (zN rfl rfl (id := 2) rfl Tryz.underlying3 rfl rfl sees0) ?_
 refine sq rfl rfl hn rfl (kG rfl rfl rfl rfl) ?_
 refine stepW (s_call [] (fun _ => zAZ _ _ _) rfl (zJ rfl) rfl (nb hn rfl) (fun _ => trivial) rfl rfl (.refl _)) fun _ => ?_
 refine sq rfl rfl hn rfl (zF rfl rfl) ?_
 refine zE (zA (zP ?_))
 exact zm (.inl rfl) hl rfl (.tmp rfl)
theorem due8_ok (l : Ldg) (q : Due8) : PureAt Tryz.prog 68 [ldgD l, .agg (dueE q)] (.bool (dueB l q)) := by
 refine PureAt.of_awp Tryz.func68 rfl (by kernel_rfl) (Nat.le_of_ble_eq_true rfl) fun Γ hn hl => ?_
 refine zC (zB ?_)
 refine stepW (zr 2 rfl rfl rfl (nb hn rfl) rfl rfl) fun b2 => ?_
 refine stepW (zr 3 rfl rfl rfl (nb hn rfl) rfl rfl) fun b3 => ?_
 refine sq rfl rfl hn rfl (zF rfl rfl) ?_
 refine zE (zA (zC (zB ?_)))
 refine sq rfl rfl hn rfl (za rfl rfl (id := 2) rfl Tryz.underlying50 rfl sz50 rfl rfl sees0) ?_
 refine sq rfl rfl hn rfl (zH rfl rfl Tryz.underlying88 rfl sz3) ?_
 refine sq rfl rfl hn rfl (zN rfl rfl (id := 3) rfl Tryz.underlying3 rfl rfl sees0) ?_
 refine stepW (s_call [] (fun _ => zD6 _ _) rfl (zJ rfl) rfl (nb hn rfl) (fun _ => trivial) rfl rfl (.refl _)) fun _ => ?_
 refine sq rfl rfl hn rfl (zG rfl rfl) ?_
 refine stepG [] (zD rfl rfl rfl) rfl (nb hn rfl) (fun hc => trivial) (fun hc => za rfl rfl (id := 2) rfl Tryz.underlying50 rfl sz50 rfl rfl sees0) ?_
 refine stepG [] (zD rfl rfl rfl) rfl (nb hn rfl) (fun hc => trivial) (fun hc => zH rfl rfl Tryz.underlying88 rfl sz3) ?_
 refine stepG [(11, _)] (zD rfl rfl rfl) rfl (nb hn rfl) (fun hc => ⟨⟨_, rfl, hc⟩, trivial⟩) (fun hc => zN rfl rfl (id := 3) rfl Tryz.underlying3 rfl rfl sees0) ?_
 refine stepW (s_call [(10, _), (12, _)] (fun hc => zD6 _ _) rfl (zD rfl rfl rfl) rfl (nb hn rfl) (fun hc => ⟨⟨_, rfl, hc⟩, ⟨_, rfl, hc⟩, trivial⟩) rfl rfl (.refl _)) fun _ => ?_
 refine sq rfl rfl hn rfl (yC rfl rfl rfl (by intro hB; first | (rw [hB]; rfl) | (rw [hB, hc]; rfl) | simp_all)) ?_
 refine sq rfl rfl hn rfl (zG rfl rfl) ?_
 refine stepG [] (zD rfl rfl rfl) rfl (nb hn rfl) (fun hc => trivial) (fun hc => zH rfl rfl Tryz.underlying88 rfl sz3) ?_
 refine stepG [(16, _)] (zD rfl rfl rfl) rfl (nb hn rfl) (fun hc => ⟨⟨_, rfl, hc⟩, trivial⟩) (fun hc => zN rfl rfl (id := 3) rfl Tryz.underlying3 rfl rfl sees0) ?_
 refine stepG [] (zD rfl rfl rfl) rfl (nb hn rfl) (fun hc => trivial) (fun hc => zH rfl rfl Tryz.underlying88 rfl sz3) ?_
 refine stepG [(18, _)] (zD rfl rfl rfl) rfl (nb hn rfl) (fun hc => ⟨⟨_, rfl, hc⟩, trivial⟩) (fun hc => zN rfl rfl (id := 3) rfl Tryz.underlying3 rfl rfl sees0) ?_
 refine stepG [(17, _), (19, _)] (zD rfl rfl rfl) rfl (nb hn rfl) (fun hc => ⟨⟨_, rfl, hc⟩, ⟨_, rfl, hc⟩, trivial⟩) (fun hc => yR rfl rfl rfl) ?_
 refine sq rfl rfl hn rfl (yC rfl rfl rfl (by intro hB; first | (rw [hB]; rfl) | (rw [hB, hc]; rfl) | simp_all)) ?_
 refine sq rfl rfl hn rfl (zG rfl rfl) ?_
 refine stepG [] (zD rfl rfl rfl) rfl (nb hn rfl) (fun hc => trivial) (fun hc => zH rfl rfl Tryz.underlying88 rfl sz3) ?_
 refine stepG [(23, _)] (zD rfl rfl rfl) rfl (nb hn rfl) (fun hc => ⟨⟨_, rfl, hc⟩, trivial⟩) (fun hc => zN rfl rfl (id := 3) rfl Tryz.underlying3 rfl rfl sees0) ?_
 refine stepW (s_call [(24, _)] (fun hc => zAZ _ _ _) rfl (zD rfl rfl rfl) rfl (nb hn rfl) (fun hc => ⟨⟨_, rfl, hc⟩, trivial⟩) rfl rfl (.refl _)) fun _ => ?_
 refine sq rfl rfl hn rfl (yC rfl rfl rfl (by intro hB; first | (rw [hB]; rfl) | (rw [hB, hc]; rfl) | simp_all)) ?_
 refine sq rfl rfl hn rfl (zF rfl rfl) ?_
 refine zE (zA (zP ?_))
 refine zj (zm (.inl rfl) hl rfl (.tmp rfl)) ?_
 simp [dueB, Bool.and_assoc]
theorem IndexFunc_due (l : List Due8) (p : Due8 → Bool) (g : FuncId) (fi ca : List D) (hp : ∀ x ∈ l, PureAt Tryz.prog g (fi ++ [.agg (dueE x)] ++ ca) (.bool (p x))) : PureAt Tryz.prog 132 [duesD l, .fn (.func g) fi ca] (.int .i64 (idxOf p l)) := by
 refine PureAt.of_awp' Tryz.func132 rfl (by kernel_rfl) rfl fun hlen Γ hn hl => ?_
 have hl5 := hlen.1; simp only [List.length_map] at hl5
 refine zC (zB ?_)
 refine sq rfl rfl hn rfl (zF rfl rfl) ?_
 refine zE (zA (zC (zC (zB ?_))))
 refine sq rfl rfl hn rfl (zG rfl rfl) ?_
 refine sq rfl rfl hn rfl (zu rfl rfl Tryz.underlying48) ?_
 refine sq rfl rfl hn rfl (zG rfl rfl) ?_
 refine zE (zA (zR ?_))
 refine awp_loop_on (ι := { i : Nat // i ≤ l.length ∧ (l.take i).all (fun x => !p x) = true }) (fun i => (8, true, .d (.int .i64 (i.1 : Int))) :: anys [9, 10, 5, 11, 12, 13, 14, 15, 16, 18]) (fun i => []) (fun i => l.length - i.1) ⟨0, by simp⟩ ⟨.inl rfl, zK _⟩ trivial ?_
 rintro ⟨i, hi, hall⟩
 dsimp only
 refine zC (zB ?_)
 refine sq rfl rfl hn rfl (yB rfl rfl rfl) ?_
 refine zE (zA (zC ?_))
 refine zQ rfl (fun hb0 => ?_) (fun hb0 => ?_)
 ·
  try simp only [decide_eq_true_eq, decide_eq_false_iff_not, Bool.and_eq_true, Bool.or_eq_true, Bool.and_eq_false_iff, Bool.or_eq_false_iff, Bool.not_eq_true', Bool.not_eq_false', beq_iff_eq, bne_iff_ne, ne_eq, beq_eq_false_iff_ne, bne_eq_false_iff_eq, Int.not_lt, Int.not_le] at hb0
  have hlt : i < l.length := by simpa using hb0
  obtain ⟨x, hx⟩ := z7 hlt
  refine zT (zA (zC (zR (zC (zB ?_)))))
  refine sq rfl rfl hn rfl (zG rfl rfl) ?_
  refine sq rfl rfl hn rfl (zF rfl rfl) ?_
  refine zE (zA (zC (zB ?_)))
  refine sq rfl rfl hn rfl (zG rfl rfl) ?_
  refine sq rfl rfl hn rfl (zG rfl rfl) ?_
  refine sq rfl rfl hn rfl (zG rfl rfl) ?_
  refine sq rfl rfl hn rfl (q_index rfl rfl rfl Tryz.underlying48 sz88 rfl (mget hx)) ?_
  refine sq rfl rfl hn rfl (zf rfl rfl Tryz.underlying88 rfl sz88 rfl rfl seesF0) ?_
  refine stepW (s_call [] (fun _ => hp x (List.mem_of_getElem? hx)) rfl (zJ rfl) rfl (nb hn rfl) (fun _ => trivial) rfl rfl (.refl _)) fun _ => ?_
  refine zE (zA ?_)
  refine zQ rfl (fun hb1 => ?_) (fun hb1 => ?_)
  ·
   try simp only [decide_eq_true_eq, decide_eq_false_iff_not, Bool.and_eq_true, Bool.or_eq_true, Bool.and_eq_false_iff, Bool.or_eq_false_iff, Bool.not_eq_true', Bool.not_eq_false', beq_iff_eq, bne_iff_ne, ne_eq, beq_eq_false_iff_ne, bne_eq_false_iff_eq, Int.not_lt, Int.not_le] at hb1
   refine zC (zB ?_)
   refine sq rfl rfl hn rfl (zG rfl rfl) ?_
   refine sq rfl rfl hn rfl (zF rfl rfl) ?_
   refine zE (zA (zP (zZ (zM (zM (zZ (zM ?_)))))))
   refine zj (zm (.inl rfl) hl rfl (.tmp rfl)) ?_
   rw [y5 hx hall (by simpa using hb1)]
  ·
   try simp only [decide_eq_true_eq, decide_eq_false_iff_not, Bool.and_eq_true, Bool.or_eq_true, Bool.and_eq_false_iff, Bool.or_eq_false_iff, Bool.not_eq_true', Bool.not_eq_false', beq_iff_eq, bne_iff_ne, ne_eq, beq_eq_false_iff_ne, bne_eq_false_iff_eq, Int.not_lt, Int.not_le] at hb1
   refine zT (zX (zA (zB ?_)))
   refine sq rfl rfl hn rfl (zq rfl rfl rfl (r := ((i + 1 : Nat) : Int)) (i64w (by omega) (by omega))) ?_
   refine sq rfl rfl hn rfl (zG rfl rfl) ?_
   refine zE ?_
   exact zU ⟨i + 1, by omega, yL hx hall (by simp [hb1])⟩ ⟨.inl rfl, zK _⟩ trivial (by simp only; omega) (by repeat (first | exact kr _ | refine kc rfl ?_)) (by repeat (first | exact kr _ | refine kc rfl ?_))
 ·
  try simp only [decide_eq_true_eq, decide_eq_false_iff_not, Bool.and_eq_true, Bool.or_eq_true, Bool.and_eq_false_iff, Bool.or_eq_false_iff, Bool.not_eq_true', Bool.not_eq_false', beq_iff_eq, bne_iff_ne, ne_eq, beq_eq_false_iff_ne, bne_eq_false_iff_eq, Int.not_lt, Int.not_le] at hb0
  refine zk (zI (zI (zS (zA (zC (zB ?_))))))
  refine sq rfl rfl hn rfl (zF rfl rfl) ?_
  refine zE (zA (zP ?_))
  refine zj (zm (.inl rfl) hl rfl (.tmp rfl)) ?_
  have hi2 : i = l.length := by simp only [List.length_map] at hb0; omega
  subst hi2; rw [List.take_length] at hall; rw [yj hall]
theorem ContainsFunc_due (l : List Due8) (p : Due8 → Bool) (g : FuncId) (fi ca : List D) (hp : ∀ x ∈ l, PureAt Tryz.prog g (fi ++ [.agg (dueE x)] ++ ca) (.bool (p x))) : PureAt Tryz.prog 99 [duesD l, .fn (.func g) fi ca] (.bool (l.any p)) := by
 refine PureAt.of_awp Tryz.func99 rfl (by kernel_rfl) (Nat.le_of_ble_eq_true rfl) fun Γ hn hl => ?_
 refine zC (zB ?_)
 refine sq rfl rfl hn rfl (zF rfl rfl) ?_
 refine zE (zA (zC (zB ?_)))
 refine sq rfl rfl hn rfl (zG rfl rfl) ?_
 refine sq rfl rfl hn rfl (zG rfl rfl) ?_
 refine stepW (s_call [] (fun _ => IndexFunc_due l p g fi ca hp) rfl (zJ rfl) rfl (nb hn rfl) (fun _ => trivial) rfl rfl (.refl _)) fun _ => ?_
 refine sq rfl rfl hn rfl (zCj rfl rfl rfl) ?_
 refine sq rfl rfl hn rfl (zF rfl rfl) ?_
 refine zE (zA (zP ?_))
 refine zj (zm (.inl rfl) hl rfl (.tmp rfl)) ?_
 rw [yZ]
theorem all1_due (x : Due8) (b : Bool) (g : FuncId) (fi ca : List D) (hp : PureAt Tryz.prog g (fi ++ [.agg (dueE x)] ++ ca) (.bool b)) : PureAt Tryz.prog 100 [.agg (dueE x), .ptr [.fn (.func g) fi ca]] (.bool (!b)) := by
 refine PureAt.of_awp Tryz.func100 rfl (by kernel_rfl) (Nat.le_of_ble_eq_true rfl) fun Γ hn hl => ?_
 refine zC (zB ?_)
 refine stepW (zr 2 rfl rfl rfl (nb hn rfl) rfl rfl) fun b2 => ?_
 refine sq rfl rfl hn rfl (zF rfl rfl) ?_
 refine zE (zA (zC (zB ?_)))
 refine sq rfl rfl hn rfl (zV rfl rfl Tryz.underlying129 rfl seesF0) ?_
 refine sq rfl rfl hn rfl (za rfl rfl (id := 2) rfl Tryz.underlying88 rfl sz88 rfl rfl sees0) ?_
 refine stepW (s_call [] (fun _ => hp) rfl (zJ rfl) rfl (nb hn rfl) (fun _ => trivial) rfl rfl (.refl _)) fun _ => ?_
 refine sq rfl rfl hn rfl (yE rfl rfl) ?_
 refine sq rfl rfl hn rfl (zF rfl rfl) ?_
 refine zE (zA (zP ?_))
 exact zm (.inl rfl) hl rfl (.tmp rfl)
theorem all_due (l : List Due8) (p : Due8 → Bool) (g : FuncId) (fi ca : List D) (hp : ∀ x ∈ l, PureAt Tryz.prog g (fi ++ [.agg (dueE x)] ++ ca) (.bool (p x))) : PureAt Tryz.prog 70 [duesD l, .fn (.func g) fi ca] (.bool (l.all p)) := by
 refine PureAt.of_awp Tryz.func70 rfl (by kernel_rfl) (Nat.le_of_ble_eq_true rfl) fun Γ hn hl => ?_
 refine zC (zB ?_)
 refine stepW (zr 3 rfl rfl rfl (nb hn rfl) rfl rfl) fun b3 => ?_
 refine sq rfl rfl hn rfl (zF rfl rfl) ?_
 refine zE (zA (zC (zB ?_)))
 refine sq rfl rfl hn rfl (zG rfl rfl) ?_
 refine yf (zp (t := 3) 3 rfl (nb hn rfl) rfl rfl trivial) ?_
 refine sq rfl rfl hn rfl (yI rfl rfl rfl) ?_
 refine stepW (s_call [] (fun _ => ContainsFunc_due l (fun x => !p x) _ [] [.ptr [.fn (.func g) fi ca]] (fun x hx => all1_due x _ g fi ca (hp x hx))) rfl (zJ rfl) rfl (nb hn rfl) (fun _ => trivial) rfl rfl (.refl _)) fun _ => ?_
 refine sq rfl rfl hn rfl (yE rfl rfl) ?_
 refine sq rfl rfl hn rfl (zF rfl rfl) ?_
 refine zE (zA (zP ?_))
 refine zj (zm (.inl rfl) hl rfl (.tmp rfl)) ?_
 rw [List.all_eq_not_any_not]
theorem all18_int (x : Int) (b : Bool) (g : FuncId) (fi ca : List D) (hp : PureAt Tryz.prog g (fi ++ [.int .i64 x] ++ ca) (.bool b)) : PureAt Tryz.prog 134 [.int .i64 x, .ptr [.fn (.func g) fi ca]] (.bool (!b)) := by
 refine PureAt.of_awp Tryz.func134 rfl (by kernel_rfl) (Nat.le_of_ble_eq_true rfl) fun Γ hn hl => ?_
 refine zC (zB ?_)
 refine sq rfl rfl hn rfl (zF rfl rfl) ?_
 refine zE (zA (zC (zB ?_)))
 refine sq rfl rfl hn rfl (zV rfl rfl Tryz.underlying110 rfl seesF0) ?_
 refine sq rfl rfl hn rfl (zG rfl rfl) ?_
 refine stepW (s_call [] (fun _ => hp) rfl (zJ rfl) rfl (nb hn rfl) (fun _ => trivial) rfl rfl (.refl _)) fun _ => ?_
 refine sq rfl rfl hn rfl (yE rfl rfl) ?_
 refine sq rfl rfl hn rfl (zF rfl rfl) ?_
 refine zE (zA (zP ?_))
 exact zm (.inl rfl) hl rfl (.tmp rfl)
theorem all8_int (l : List Int) (p : Int → Bool) (g : FuncId) (fi ca : List D) (hp : ∀ x ∈ l, PureAt Tryz.prog g (fi ++ [.int .i64 x] ++ ca) (.bool (p x))) : PureAt Tryz.prog 107 [ints l, .fn (.func g) fi ca] (.bool (l.all p)) := by
 refine PureAt.of_awp Tryz.func107 rfl (by kernel_rfl) (Nat.le_of_ble_eq_true rfl) fun Γ hn hl => ?_
 refine zC (zB ?_)
 refine stepW (zr 3 rfl rfl rfl (nb hn rfl) rfl rfl) fun b3 => ?_
 refine sq rfl rfl hn rfl (zF rfl rfl) ?_
 refine zE (zA (zC (zB ?_)))
 refine sq rfl rfl hn rfl (zG rfl rfl) ?_
 refine yf (zp (t := 3) 3 rfl (nb hn rfl) rfl rfl trivial) ?_
 refine sq rfl rfl hn rfl (yI rfl rfl rfl) ?_
 refine stepW (s_call [] (fun _ => zAJ l (fun x => !p x) _ [] [.ptr [.fn (.func g) fi ca]] (fun x hx => all18_int x _ g fi ca (hp x hx))) rfl (zJ rfl) rfl (nb hn rfl) (fun _ => trivial) rfl rfl (.refl _)) fun _ => ?_
 refine sq rfl rfl hn rfl (yE rfl rfl) ?_
 refine sq rfl rfl hn rfl (zF rfl rfl) ?_
 refine zE (zA (zP ?_))
 refine zj (zm (.inl rfl) hl rfl (.tmp rfl)) ?_
 rw [List.all_eq_not_any_not]
theorem handOf1_ok (n : Int) : PureAt Tryz.prog 108 [.int .i64 n] (.bool (decide (0 ≤ n) && decide (n ≤ 4))) := by
 refine PureAt.of_awp Tryz.func108 rfl (by kernel_rfl) (Nat.le_of_ble_eq_true rfl) fun Γ hn hl => ?_
 refine zC (zB ?_)
 refine sq rfl rfl hn rfl (zF rfl rfl) ?_
 refine zE (zA (zC (zB ?_)))
 refine sq rfl rfl hn rfl (zG rfl rfl) ?_
 refine stepW (s_call [] (fun _ => zAZ _ _ _) rfl (zJ rfl) rfl (nb hn rfl) (fun _ => trivial) rfl rfl (.refl _)) fun _ => ?_
 refine sq rfl rfl hn rfl (zF rfl rfl) ?_
 refine zE (zA (zP ?_))
 exact zm (.inl rfl) hl rfl (.tmp rfl)
theorem y8 (x : Int) (l : List Int) : PureAt Tryz.prog 74 [ints (x :: l)] (.int .i64 (minL x l)) := by
 refine PureAt.of_awp Tryz.func74 rfl (by kernel_rfl) (Nat.le_of_ble_eq_true rfl) fun Γ hn hl => ?_
 refine zC (zB ?_)
 refine sq rfl rfl hn rfl (zF rfl rfl) ?_
 refine zE (zA (zC (zB ?_)))
 refine sq rfl rfl hn rfl (zG rfl rfl) ?_
 refine stepW (s_call [] (fun _ => zGA x l) rfl (zJ rfl) rfl (nb hn rfl) (fun _ => trivial) rfl rfl (.refl _)) fun _ => ?_
 refine sq rfl rfl hn rfl (zF rfl rfl) ?_
 refine zE (zA (zP ?_))
 exact zm (.inl rfl) hl rfl (.tmp rfl)
end Go.Proofs.YtaokpncjemkhcaaGreat
namespace Go.Proofs.YtaokpncjemkhcaaGreat
open Go.RowKit
set_option maxRecDepth 20000
set_option linter.all false
def argL (l : Ldg) : Bool := decide (0 < (l.reg.sights.length : Int)) || !(decide (0 ≤ l.day) && decide (l.day ≤ 9)) || ((l.lends.length : Int) != l.reg.houses) || !(l.dues.all (dueB l))
def checkL (l : Ldg) : Int := bif checkE l.reg != 0 then checkE l.reg else bif decide (6 < (l.dues.length : Int)) then 3 else bif argL l then 1 else 0
def thinL (l : Ldg) : Bool := thinB l.reg && decide ((l.lends.length : Int) ≤ 7) && decide ((l.dues.length : Int) ≤ 9)
theorem zDy {qs : List Due8} {i : Nat} {q : Due8} (h : qs[i]? = some q) : owedI (qs.take (i + 1)) = owedI (qs.take i) + q.num := by
  rw [List.take_add_one, h, zBw]; simp [owedI]
theorem sum_take {xs : List Int} {i : Nat} {x : Int} (h : xs[i]? = some x) : sumI (xs.take (i + 1)) = sumI (xs.take i) + x := by
  rw [List.take_add_one, h, kN]; simp [sumI]
theorem zCn : ∀ {qs : List Due8}, (∀ q ∈ qs, 0 ≤ q.num ∧ q.num ≤ 1000) → 0 ≤ owedI qs ∧ owedI qs ≤ 1000 * qs.length
  | [], _ => by simp [owedI]
  | q :: qs, h => by
    have h1 := h q List.mem_cons_self
    have h2 := zCn (qs := qs) fun x hx => h x (List.mem_cons_of_mem _ hx)
    simp only [owedI, List.length_cons]; omega
theorem sz30 : Sz Tryz.prog 30 1 := (by kernel_rfl : (Tryz.prog.info? 30).map (·.size) = some 1)
theorem sz31 : Sz Tryz.prog 31 1 := (by kernel_rfl : (Tryz.prog.info? 31).map (·.size) = some 1)
theorem sz48 : Sz Tryz.prog 48 1 := (by kernel_rfl : (Tryz.prog.info? 48).map (·.size) = some 1)
theorem zr88 : (Tryz.prog.info? 88).map (·.zero) = some (some (.agg #[(.int .i64 0), (.int .i64 0), (.int .i64 0)])) := by kernel_rfl
theorem zA2 (l : Ldg) : PureAt Tryz.prog 26 [ldgD l] (.int .i64 (checkL l)) := by
 refine PureAt.of_awp Tryz.func26 rfl (by kernel_rfl) (Nat.le_of_ble_eq_true rfl) fun Γ hn hl => ?_
 refine zC (zB ?_)
 refine stepW (zr 1 rfl rfl rfl (nb hn rfl) rfl rfl) fun b1 => ?_
 refine sq rfl rfl hn rfl (zF rfl rfl) ?_
 refine zE (zA (zC (zC (zB ?_))))
 refine sq rfl rfl hn rfl (zH rfl rfl Tryz.underlying50 rfl sz44) ?_
 refine sq rfl rfl hn rfl (za rfl rfl (id := 1) rfl Tryz.underlying44 rfl sz44 rfl rfl sees0) ?_
 refine stepW (s_call [] (fun _ => kL _) rfl (zJ rfl) rfl (nb hn rfl) (fun _ => trivial) rfl rfl (.refl _)) fun _ => ?_
 refine sq rfl rfl hn rfl (zF rfl rfl) ?_
 refine zE (zA (zC (zB ?_)))
 refine sq rfl rfl hn rfl (zG rfl rfl) ?_
 refine sq rfl rfl hn rfl (yR rfl rfl rfl) ?_
 refine zE (zA ?_)
 refine zQ rfl (fun hb0 => ?_) (fun hb0 => ?_)
 ·
  refine zC (zB ?_)
  refine sq rfl rfl hn rfl (zG rfl rfl) ?_
  refine sq rfl rfl hn rfl (zF rfl rfl) ?_
  refine zE (zA (zP (zM ?_)))
  refine zj (zm (.inl rfl) hl rfl (.tmp rfl)) ?_
  rw [show checkL l = checkE l.reg from by unfold checkL; rw [hb0]; rfl]
 ·
  refine zT (zA (zC (zB ?_)))
  refine sq rfl rfl hn rfl (za rfl rfl (id := 1) rfl Tryz.underlying50 rfl sz50 rfl rfl sees0) ?_
  refine sq rfl rfl hn rfl (yI rfl rfl rfl) ?_
  refine sq rfl rfl hn rfl (zF rfl rfl) ?_
  refine zE (zA (zC (zR (zC (zB ?_)))))
  refine sq rfl rfl hn rfl (zH rfl rfl Tryz.underlying50 rfl sz48) ?_
  refine sq rfl rfl hn rfl (zN rfl rfl (id := 1) rfl Tryz.underlying48 rfl rfl sees0) ?_
  refine sq rfl rfl hn rfl (zu rfl rfl Tryz.underlying48) ?_
  refine sq rfl rfl hn rfl (yq rfl rfl rfl) ?_
  refine sq rfl rfl hn rfl (zF rfl rfl) ?_
  refine zE (zA ?_)
  refine zQ rfl (fun hb1 => ?_) (fun hb1 => ?_)
  ·
   refine zC (zB ?_)
   refine sq rfl rfl hn rfl (zF rfl rfl) ?_
   refine zE (zA (zP (zZ (zM ?_))))
   refine zj (zm (.inl rfl) hl rfl (.tmp rfl)) ?_
   simp only [List.length_map] at hb0 hb1; rw [show checkL l = 3 from by unfold checkL; rw [hb0, hb1]; rfl]
  ·
   refine zC (zB ?_)
   refine sq rfl rfl hn rfl (zH rfl rfl Tryz.underlying50 rfl sz44) ?_
   refine sq rfl rfl hn rfl (zH rfl rfl Tryz.underlying44 rfl sz42) ?_
   refine sq rfl rfl hn rfl (zN rfl rfl (id := 1) rfl Tryz.underlying42 rfl rfl sees0) ?_
   refine sq rfl rfl hn rfl (zu rfl rfl Tryz.underlying42) ?_
   refine sq rfl rfl hn rfl (yq rfl rfl rfl) ?_
   refine sq rfl rfl hn rfl (zG rfl rfl) ?_
   refine stepG [] (zD rfl rfl rfl) rfl (nb hn rfl) (fun hc => trivial) (fun hc => zH rfl rfl Tryz.underlying50 rfl sz3) ?_
   refine stepG [(25, _)] (zD rfl rfl rfl) rfl (nb hn rfl) (fun hc => ⟨⟨_, rfl, hc⟩, trivial⟩) (fun hc => zN rfl rfl (id := 1) rfl Tryz.underlying3 rfl rfl sees0) ?_
   refine stepW (s_call [(26, _)] (fun hc => zAZ _ _ _) rfl (zD rfl rfl rfl) rfl (nb hn rfl) (fun hc => ⟨⟨_, rfl, hc⟩, trivial⟩) rfl rfl (.refl _)) fun _ => ?_
   refine stepG [(27, _)] (zD rfl rfl rfl) rfl (nb hn rfl) (fun hc => ⟨⟨_, rfl, hc⟩, trivial⟩) (fun hc => yE rfl rfl) ?_
   refine sq rfl rfl hn rfl (q_or rfl rfl rfl (by intro hB; first | (rw [hB]; rfl) | (rw [hB, hc]; rfl) | simp_all)) ?_
   refine sq rfl rfl hn rfl (zG rfl rfl) ?_
   refine stepG [] (zD rfl rfl rfl) rfl (nb hn rfl) (fun hc => trivial) (fun hc => zH rfl rfl Tryz.underlying50 rfl sz30) ?_
   refine stepG [(31, _)] (zD rfl rfl rfl) rfl (nb hn rfl) (fun hc => ⟨⟨_, rfl, hc⟩, trivial⟩) (fun hc => zN rfl rfl (id := 1) rfl Tryz.underlying30 rfl rfl sees0) ?_
   refine stepG [(32, _)] (zD rfl rfl rfl) rfl (nb hn rfl) (fun hc => ⟨⟨_, rfl, hc⟩, trivial⟩) (fun hc => zu rfl rfl Tryz.underlying30) ?_
   refine stepG [] (zD rfl rfl rfl) rfl (nb hn rfl) (fun hc => trivial) (fun hc => zH rfl rfl Tryz.underlying50 rfl sz44) ?_
   refine stepG [(34, _)] (zD rfl rfl rfl) rfl (nb hn rfl) (fun hc => ⟨⟨_, rfl, hc⟩, trivial⟩) (fun hc => zH rfl rfl Tryz.underlying44 rfl sz3) ?_
   refine stepG [(35, _)] (zD rfl rfl rfl) rfl (nb hn rfl) (fun hc => ⟨⟨_, rfl, hc⟩, trivial⟩) (fun hc => zN rfl rfl (id := 1) rfl Tryz.underlying3 rfl rfl sees0) ?_
   refine stepG [(33, _), (36, _)] (zD rfl rfl rfl) rfl (nb hn rfl) (fun hc => ⟨⟨_, rfl, hc⟩, ⟨_, rfl, hc⟩, trivial⟩) (fun hc => yR rfl rfl rfl) ?_
   refine sq rfl rfl hn rfl (q_or rfl rfl rfl (by intro hB; first | (rw [hB]; rfl) | (rw [hB, hc]; rfl) | simp_all)) ?_
   refine sq rfl rfl hn rfl (zG rfl rfl) ?_
   refine stepG [] (zD rfl rfl rfl) rfl (nb hn rfl) (fun hc => trivial) (fun hc => zH rfl rfl Tryz.underlying50 rfl sz48) ?_
   refine stepG [(40, _)] (zD rfl rfl rfl) rfl (nb hn rfl) (fun hc => ⟨⟨_, rfl, hc⟩, trivial⟩) (fun hc => zN rfl rfl (id := 1) rfl Tryz.underlying48 rfl rfl sees0) ?_
   refine stepG [] (zD rfl rfl rfl) rfl (nb hn rfl) (fun hc => trivial) (fun hc => zG rfl rfl) ?_
   refine stepW (s_call [(41, _), (42, _)] (fun hc => all_due l.dues (dueB l) 68 [ldgD l] [] (fun q _ => due8_ok l q)) rfl (zD rfl rfl rfl) rfl (nb hn rfl) (fun hc => ⟨⟨_, rfl, hc⟩, ⟨_, rfl, hc⟩, trivial⟩) rfl rfl (.refl _)) fun _ => ?_
   refine stepG [(43, _)] (zD rfl rfl rfl) rfl (nb hn rfl) (fun hc => ⟨⟨_, rfl, hc⟩, trivial⟩) (fun hc => yE rfl rfl) ?_
   refine sq rfl rfl hn rfl (q_or rfl rfl rfl (by intro hB; first | (rw [hB]; rfl) | (rw [hB, hc]; rfl) | simp_all)) ?_
   refine sq rfl rfl hn rfl (zF rfl rfl) ?_
   refine zE (zA ?_)
   refine zQ rfl (fun hb2 => ?_) (fun hb2 => ?_)
   ·
    refine zC (zB ?_)
    refine sq rfl rfl hn rfl (zF rfl rfl) ?_
    refine zE (zA (zP (zZ (zM ?_))))
    refine zj (zm (.inl rfl) hl rfl (.tmp rfl)) ?_
    simp only [List.length_map] at hb0 hb1 hb2; rw [show checkL l = 1 from by unfold checkL argL; rw [hb0, hb1, hb2]; rfl]
   ·
    refine zT (zX (zA (zC (zB ?_))))
    refine sq rfl rfl hn rfl (zF rfl rfl) ?_
    refine zE (zA (zP ?_))
    refine zj (zm (.inl rfl) hl rfl (.tmp rfl)) ?_
    simp only [List.length_map] at hb0 hb1 hb2; rw [show checkL l = 0 from by unfold checkL argL; rw [hb0, hb1, hb2]; rfl]
theorem Thin8_ok (l : Ldg) : PureAt Tryz.prog 44 [ldgD l] (.bool (thinL l)) := by
 refine PureAt.of_awp Tryz.func44 rfl (by kernel_rfl) (Nat.le_of_ble_eq_true rfl) fun Γ hn hl => ?_
 refine zC (zB ?_)
 refine stepW (zr 1 rfl rfl rfl (nb hn rfl) rfl rfl) fun b1 => ?_
 refine sq rfl rfl hn rfl (zF rfl rfl) ?_
 refine zE (zA (zC (zB ?_)))
 refine sq rfl rfl hn rfl (zH rfl rfl Tryz.underlying33 rfl sz26) ?_
 refine sq rfl rfl hn rfl (za rfl rfl (id := 1) rfl Tryz.underlying26 rfl sz26 rfl rfl sees0) ?_
 refine stepW (s_call [] (fun _ => Thin_ok _) rfl (zJ rfl) rfl (nb hn rfl) (fun _ => trivial) rfl rfl (.refl _)) fun _ => ?_
 refine sq rfl rfl hn rfl (zG rfl rfl) ?_
 refine stepG [] (zD rfl rfl rfl) rfl (nb hn rfl) (fun hc => trivial) (fun hc => zH rfl rfl Tryz.underlying33 rfl sz30) ?_
 refine stepG [(7, _)] (zD rfl rfl rfl) rfl (nb hn rfl) (fun hc => ⟨⟨_, rfl, hc⟩, trivial⟩) (fun hc => zN rfl rfl (id := 1) rfl Tryz.underlying30 rfl rfl sees0) ?_
 refine stepG [(8, _)] (zD rfl rfl rfl) rfl (nb hn rfl) (fun hc => ⟨⟨_, rfl, hc⟩, trivial⟩) (fun hc => zu rfl rfl Tryz.underlying30) ?_
 refine stepG [(9, _)] (zD rfl rfl rfl) rfl (nb hn rfl) (fun hc => ⟨⟨_, rfl, hc⟩, trivial⟩) (fun hc => zAS rfl rfl rfl) ?_
 refine sq rfl rfl hn rfl (yC rfl rfl rfl (by intro hB; first | (rw [hB]; rfl) | (rw [hB, hc]; rfl) | simp_all)) ?_
 refine sq rfl rfl hn rfl (zG rfl rfl) ?_
 refine stepG [] (zD rfl rfl rfl) rfl (nb hn rfl) (fun hc => trivial) (fun hc => zH rfl rfl Tryz.underlying33 rfl sz31) ?_
 refine stepG [(13, _)] (zD rfl rfl rfl) rfl (nb hn rfl) (fun hc => ⟨⟨_, rfl, hc⟩, trivial⟩) (fun hc => zN rfl rfl (id := 1) rfl Tryz.underlying31 rfl rfl sees0) ?_
 refine stepG [(14, _)] (zD rfl rfl rfl) rfl (nb hn rfl) (fun hc => ⟨⟨_, rfl, hc⟩, trivial⟩) (fun hc => zu rfl rfl Tryz.underlying31) ?_
 refine stepG [(15, _)] (zD rfl rfl rfl) rfl (nb hn rfl) (fun hc => ⟨⟨_, rfl, hc⟩, trivial⟩) (fun hc => zAS rfl rfl rfl) ?_
 refine sq rfl rfl hn rfl (yC rfl rfl rfl (by intro hB; first | (rw [hB]; rfl) | (rw [hB, hc]; rfl) | simp_all)) ?_
 refine sq rfl rfl hn rfl (zF rfl rfl) ?_
 refine zE (zA (zP ?_))
 refine zj (zm (.inl rfl) hl rfl (.tmp rfl)) ?_
 simp [thinL, Bool.and_assoc]
theorem lacks_ok (a b : Int) (h5 : -1000 ≤ b ∧ b ≤ 1000) : PureAt Tryz.prog 109 [.agg [.int .i64 a, .int .i64 b]] (.int .i64 (max 0 (-b))) := by
 refine PureAt.of_awp Tryz.func109 rfl (by kernel_rfl) (Nat.le_of_ble_eq_true rfl) fun Γ hn hl => ?_
 refine zC (zB ?_)
 refine stepW (zr 1 rfl rfl rfl (nb hn rfl) rfl rfl) fun b1 => ?_
 refine sq rfl rfl hn rfl (zF rfl rfl) ?_
 refine zE (zA (zC (zB ?_)))
 refine sq rfl rfl hn rfl (zH rfl rfl Tryz.underlying169 rfl sz3) ?_
 refine sq rfl rfl hn rfl (zN rfl rfl (id := 1) rfl Tryz.underlying3 rfl rfl sees0) ?_
 refine sq rfl rfl hn rfl (zF8 rfl rfl (i64w (by omega) rfl)) ?_
 refine sq rfl rfl hn rfl (zCl rfl rfl rfl) ?_
 refine sq rfl rfl hn rfl (zF rfl rfl) ?_
 refine zE (zA (zP ?_))
 refine zj (zm (.inl rfl) hl rfl (.tmp rfl)) ?_
 rw [Int.zero_sub]
theorem lends_ok (a b : Int) : PureAt Tryz.prog 111 [.agg [.int .i64 a, .int .i64 b]] (.int .i64 (max 0 (min b a))) := by
 refine PureAt.of_awp Tryz.func111 rfl (by kernel_rfl) (Nat.le_of_ble_eq_true rfl) fun Γ hn hl => ?_
 refine zC (zB ?_)
 refine stepW (zr 1 rfl rfl rfl (nb hn rfl) rfl rfl) fun b1 => ?_
 refine sq rfl rfl hn rfl (zF rfl rfl) ?_
 refine zE (zA (zC (zB ?_)))
 refine sq rfl rfl hn rfl (zH rfl rfl Tryz.underlying169 rfl sz3) ?_
 refine sq rfl rfl hn rfl (zN rfl rfl (id := 1) rfl Tryz.underlying3 rfl rfl sees0) ?_
 refine sq rfl rfl hn rfl (zH rfl rfl Tryz.underlying169 rfl sz3) ?_
 refine sq rfl rfl hn rfl (zN rfl rfl (id := 1) rfl Tryz.underlying3 rfl rfl sees0) ?_
 refine stepW (zb rfl rfl rfl (nb hn rfl) Tryz.underlying22 sz3 zr3 rfl rfl rfl (show _ = [.d (.int .i64 0), .d (.int .i64 0)] from by kernel_rfl) (by kernel_rfl) rfl rfl rfl rfl rfl) fun _ => ?_
 refine stepW (s_call [] (fun _ => y8 b [a]) rfl (zJ rfl) rfl (nb hn rfl) (fun _ => trivial) rfl rfl (.refl _)) fun _ => ?_
 refine sq rfl rfl hn rfl (zCl rfl rfl rfl) ?_
 refine sq rfl rfl hn rfl (zF rfl rfl) ?_
 refine zE (zA (zP ?_))
 refine zj (zm (.inl rfl) hl rfl (.tmp rfl)) ?_
 simp [minL]
theorem each_ok (l : Ldg) (h : Int) : PureAt Tryz.prog 110 [ldgD l, .int .i64 h] (.bool true) := by
 refine PureAt.of_awp Tryz.func110 rfl (by kernel_rfl) (Nat.le_of_ble_eq_true rfl) fun Γ hn hl => ?_
 refine zC (zB ?_)
 refine stepW (zr 2 rfl rfl rfl (nb hn rfl) rfl rfl) fun b2 => ?_
 refine sq rfl rfl hn rfl (zF rfl rfl) ?_
 refine zE (zA (zC (zB ?_)))
 refine sq rfl rfl hn rfl (zF rfl rfl) ?_
 refine zE (zA (zP ?_))
 exact zm (.inl rfl) hl rfl (.tmp rfl)
theorem lender_ok (l : Ldg) (h : Nat) (b : Bool) (hb5 : l.lends[h]? = some b) : PureAt Tryz.prog 112 [ldgD l, .int .i64 (h : Nat)] (.bool b) := by
 refine PureAt.of_awp Tryz.func112 rfl (by kernel_rfl) (Nat.le_of_ble_eq_true rfl) fun Γ hn hl => ?_
 refine zC (zB ?_)
 refine stepW (zr 2 rfl rfl rfl (nb hn rfl) rfl rfl) fun b2 => ?_
 refine sq rfl rfl hn rfl (zF rfl rfl) ?_
 refine zE (zA (zC (zB ?_)))
 refine sq rfl rfl hn rfl (zH rfl rfl Tryz.underlying50 rfl sz30) ?_
 refine sq rfl rfl hn rfl (zN rfl rfl (id := 2) rfl Tryz.underlying30 rfl rfl sees0) ?_
 refine sq rfl rfl hn rfl (zG rfl rfl) ?_
 refine sq rfl rfl hn rfl (q_index (i := h) rfl rfl rfl Tryz.underlying30 sz4 rfl (mget hb5)) ?_
 refine sq rfl rfl hn rfl (zV rfl rfl Tryz.underlying4 rfl seesF0) ?_
 refine sq rfl rfl hn rfl (zF rfl rfl) ?_
 refine zE (zA (zP ?_))
 exact zm (.inl rfl) hl rfl (.tmp rfl)
theorem zFY (l : Ldg) (hq5 : ∀ q ∈ l.dues, 0 ≤ q.num ∧ q.num ≤ 1000) (hl5 : l.dues.length ≤ 1000000) : PureAt Tryz.prog 72 [ldgD l] (.int .i64 (owedI l.dues)) := by
 refine PureAt.of_awp Tryz.func72 rfl (by kernel_rfl) (Nat.le_of_ble_eq_true rfl) fun Γ hn hl => ?_
 refine zC (zB ?_)
 refine stepW (zr 1 rfl rfl rfl (nb hn rfl) rfl rfl) fun b1 => ?_
 refine sq rfl rfl hn rfl (zF rfl rfl) ?_
 refine zE (zA (zC (zC (zB ?_))))
 refine sq rfl rfl hn rfl (zH rfl rfl Tryz.underlying50 rfl sz48) ?_
 refine sq rfl rfl hn rfl (zN rfl rfl (id := 1) rfl Tryz.underlying48 rfl rfl sees0) ?_
 refine sq rfl rfl hn rfl (zu rfl rfl Tryz.underlying48) ?_
 refine sq rfl rfl hn rfl (zG rfl rfl) ?_
 refine zE (zA (zR ?_))
 refine awp_loop_on (ι := {i : Nat // i ≤ l.dues.length}) (fun x => (2, true, .d (.int .i64 (owedI (l.dues.take x.1)))) :: (8, true, .d (.int .i64 (x.1 : Nat))) :: anys [9, 10, 11, 4, 12, 13, 14, 15, 16]) (fun x => gones [4]) (fun x => l.dues.length - x.1) ⟨0, Nat.zero_le _⟩ ⟨.inl rfl, .inl rfl, zK _⟩ (zW _) ?_
 rintro ⟨i, hi⟩
 dsimp only
 refine zC (zB ?_)
 refine sq rfl rfl hn rfl (yB rfl rfl rfl) ?_
 refine zE (zA (zC ?_))
 refine zQ rfl (fun hb0 => ?_) (fun hb0 => ?_)
 ·
  have hlt : i < l.dues.length := by simpa using hb0
  obtain ⟨q, hx⟩ := z7 hlt
  have hq := hq5 q (List.mem_of_getElem? hx)
  have hb5 := zCn (qs := l.dues.take i) fun x hx => hq5 x (List.mem_of_mem_take hx)
  have hb6 : (l.dues.take i).length ≤ 1000000 := by simp; omega
  refine zT (zA (zC (zR (zC (zB ?_)))))
  refine sq rfl rfl hn rfl (q_index rfl rfl rfl Tryz.underlying48 sz88 rfl (mget hx)) ?_
  refine sq rfl rfl hn rfl (zf rfl rfl Tryz.underlying88 rfl sz88 rfl rfl seesF0) ?_
  refine stepW (zg 4 rfl rfl rfl (nb hn rfl) zr88 rfl rfl) fun b4 => ?_
  refine stepW (zh rfl rfl rfl rfl rfl rfl (id := 4) rfl sz88 rfl (Nat.le_of_ble_eq_true rfl) rfl trivial) fun _ => ?_
  refine zE (zA (zB ?_))
  refine sq rfl rfl hn rfl (zG rfl rfl) ?_
  refine sq rfl rfl hn rfl (zH rfl rfl Tryz.underlying88 rfl sz3) ?_
  refine sq rfl rfl hn rfl (zN rfl rfl (id := 4) rfl Tryz.underlying3 rfl rfl sees0) ?_
  refine sq rfl rfl hn rfl (zq rfl rfl rfl (r := owedI (l.dues.take (i + 1))) (by rw [zDy hx]; exact i64w (by omega) rfl)) ?_
  refine sq rfl rfl hn rfl (zF rfl rfl) ?_
  refine zE (zX (zA (zB ?_)))
  refine sq rfl rfl hn rfl (zq rfl rfl rfl (r := ((i + 1 : Nat) : Int)) (i64w (by omega) (by omega))) ?_
  refine sq rfl rfl hn rfl (zG rfl rfl) ?_
  refine zE ?_
  exact zU ⟨i + 1, by omega⟩ ⟨.inl rfl, .inl rfl, zK _⟩ (zW _) (by simp only; omega) (by repeat (first | exact kr _ | refine kc rfl ?_)) (by repeat (first | exact kr _ | refine kc rfl ?_))
 ·
  have hie : i = l.dues.length := by simp only [List.length_map, decide_eq_false_iff_not] at hb0; omega
  subst hie
  refine zk (zI (zI (zS (zA (zC (zB ?_))))))
  refine sq rfl rfl hn rfl (zG rfl rfl) ?_
  refine sq rfl rfl hn rfl (zF rfl rfl) ?_
  refine zE (zA (zP ?_))
  refine zj (zm (.inl rfl) hl rfl (.tmp rfl)) ?_
  rw [List.take_length]
end Go.Proofs.YtaokpncjemkhcaaGreat
namespace Go.Proofs.YtaokpncjemkhcaaGreat
open Go.RowKit
set_option maxRecDepth 20000
set_option linter.all false
theorem zEP : ∀ {xs : List Int}, (∀ q ∈ xs, -1000 ≤ q ∧ q ≤ 1000) → -(1000 * (xs.length : Int)) ≤ sumI xs ∧ sumI xs ≤ 1000 * xs.length
  | [], _ => by simp [sumI]
  | q :: qs, h => by
    have h1 := h q List.mem_cons_self
    have h2 := zEP (xs := qs) fun x hx => h x (List.mem_cons_of_mem _ hx)
    simp only [sumI, List.length_cons]; omega
theorem sz35 : Sz Tryz.prog 35 3 := (by kernel_rfl : (Tryz.prog.info? 35).map (·.size) = some 3)
theorem Owed_ok (l : Ldg) (hq5 : ∀ q ∈ l.dues, 0 ≤ q.num ∧ q.num ≤ 1000) (hl5 : l.dues.length ≤ 1000000) : PureAt Tryz.prog 33 [ldgD l] (.int .i64 (owedI l.dues)) := by
 refine PureAt.of_awp Tryz.func33 rfl (by kernel_rfl) (Nat.le_of_ble_eq_true rfl) fun Γ hn hl => ?_
 refine zC (zB ?_)
 refine stepW (zr 1 rfl rfl rfl (nb hn rfl) rfl rfl) fun b1 => ?_
 refine sq rfl rfl hn rfl (zF rfl rfl) ?_
 refine zE (zA (zC (zB ?_)))
 refine sq rfl rfl hn rfl (zF rfl rfl) ?_
 refine zE (zA (zC (zC (zB ?_))))
 refine sq rfl rfl hn rfl (zF rfl rfl) ?_
 refine zE (zA (zR ?_))
 refine awp_loop_on (ι := {i : Nat // i ≤ l.dues.length}) (fun x => (3, true, .d (.int .i64 (owedI (l.dues.take x.1)))) :: (4, true, .d (.int .i64 (x.1 : Nat))) :: anys [5, 6, 7, 8, 9, 12, 13, 14, 15, 16, 17, 18, 19, 10, 11]) (fun x => []) (fun x => l.dues.length - x.1) ⟨0, Nat.zero_le _⟩ ⟨.inl rfl, .inl rfl, zK _⟩ trivial ?_
 rintro ⟨i, hi⟩
 dsimp only
 refine zC (zC (zB ?_))
 refine sq rfl rfl hn rfl (zG rfl rfl) ?_
 refine sq rfl rfl hn rfl (zH rfl rfl Tryz.underlying33 rfl sz31) ?_
 refine sq rfl rfl hn rfl (zN rfl rfl (id := 1) rfl Tryz.underlying31 rfl rfl sees0) ?_
 refine sq rfl rfl hn rfl (zu rfl rfl Tryz.underlying31) ?_
 refine sq rfl rfl hn rfl (yB rfl rfl rfl) ?_
 refine zE (zA ?_)
 refine zQ rfl (fun hb0 => ?_) (fun hb0 => ?_)
 ·
  have hlt : i < l.dues.length := by simpa using hb0
  obtain ⟨q, hx⟩ := z7 hlt
  have hq := hq5 q (List.mem_of_getElem? hx)
  have hb5 := zCn (qs := l.dues.take i) fun x hx => hq5 x (List.mem_of_mem_take hx)
  have hb6 : (l.dues.take i).length ≤ 1000000 := by simp; omega
  refine zT (zA (zC (zR (zB ?_))))
  refine sq rfl rfl hn rfl (zG rfl rfl) ?_
  refine sq rfl rfl hn rfl (zH rfl rfl Tryz.underlying33 rfl sz31) ?_
  refine sq rfl rfl hn rfl (zN rfl rfl (id := 1) rfl Tryz.underlying31 rfl rfl sees0) ?_
  refine sq rfl rfl hn rfl (zG rfl rfl) ?_
  refine sq rfl rfl hn rfl (q_index (i := i) rfl rfl rfl Tryz.underlying31 sz35 rfl (mget hx)) ?_
  refine sq rfl rfl hn rfl (zO rfl rfl Tryz.underlying35 rfl sz3 rfl) ?_
  refine sq rfl rfl hn rfl (zV rfl rfl Tryz.underlying3 rfl seesF0) ?_
  refine sq rfl rfl hn rfl (zq rfl rfl rfl (r := owedI (l.dues.take (i + 1))) (by rw [zDy hx]; exact i64w (by omega) rfl)) ?_
  refine sq rfl rfl hn rfl (zF rfl rfl) ?_
  refine zE (zX (zA (zB ?_)))
  refine sq rfl rfl hn rfl (zG rfl rfl) ?_
  refine sq rfl rfl hn rfl (zq rfl rfl rfl (r := ((i + 1 : Nat) : Int)) (i64w (by omega) (by omega))) ?_
  refine sq rfl rfl hn rfl (zF rfl rfl) ?_
  refine zE ?_
  exact zU ⟨i + 1, by omega⟩ ⟨.inl rfl, .inl rfl, zK _⟩ trivial (by simp only; omega) (by repeat (first | exact kr _ | refine kc rfl ?_)) (by repeat (first | exact kr _ | refine kc rfl ?_))
 ·
  have hie : i = l.dues.length := by simp only [List.length_map, decide_eq_false_iff_not] at hb0; omega
  subst hie
  refine zk (zI (zI (zS (zA (zC (zB ?_))))))
  refine sq rfl rfl hn rfl (zG rfl rfl) ?_
  refine sq rfl rfl hn rfl (zF rfl rfl) ?_
  refine zE (zA (zP ?_))
  refine zj (zm (.inl rfl) hl rfl (.tmp rfl)) ?_
  rw [List.take_length]
theorem Sum_ok (xs : List Int) (hq5 : ∀ x ∈ xs, -1000 ≤ x ∧ x ≤ 1000) (hl5 : xs.length ≤ 1000000) : PureAt Tryz.prog 34 [ints xs] (.int .i64 (sumI xs)) := by
 refine PureAt.of_awp Tryz.func34 rfl (by kernel_rfl) (Nat.le_of_ble_eq_true rfl) fun Γ hn hl => ?_
 refine zC (zB ?_)
 refine sq rfl rfl hn rfl (zF rfl rfl) ?_
 refine zE (zA (zC (zB ?_)))
 refine sq rfl rfl hn rfl (zF rfl rfl) ?_
 refine zE (zA (zC (zC (zB ?_))))
 refine sq rfl rfl hn rfl (zF rfl rfl) ?_
 refine zE (zA (zR ?_))
 refine awp_loop_on (ι := {i : Nat // i ≤ xs.length}) (fun x => (3, true, .d (.int .i64 (sumI (xs.take x.1)))) :: (4, true, .d (.int .i64 (x.1 : Nat))) :: anys [5, 6, 7, 8, 11, 12, 13, 14, 15, 16, 9, 10]) (fun x => []) (fun x => xs.length - x.1) ⟨0, Nat.zero_le _⟩ ⟨.inl rfl, .inl rfl, zK _⟩ trivial ?_
 rintro ⟨i, hi⟩
 dsimp only
 refine zC (zC (zB ?_))
 refine sq rfl rfl hn rfl (zG rfl rfl) ?_
 refine sq rfl rfl hn rfl (zG rfl rfl) ?_
 refine sq rfl rfl hn rfl (zu rfl rfl Tryz.underlying22) ?_
 refine sq rfl rfl hn rfl (yB rfl rfl rfl) ?_
 refine zE (zA ?_)
 refine zQ rfl (fun hb0 => ?_) (fun hb0 => ?_)
 ·
  have hlt : i < xs.length := by simpa using hb0
  obtain ⟨q, hx⟩ := z7 hlt
  have hq := hq5 q (List.mem_of_getElem? hx)
  have hb5 := zEP (xs := xs.take i) fun x hx => hq5 x (List.mem_of_mem_take hx)
  have hb6 : (xs.take i).length ≤ 1000000 := by simp; omega
  refine zT (zA (zC (zR (zB ?_))))
  refine sq rfl rfl hn rfl (zG rfl rfl) ?_
  refine sq rfl rfl hn rfl (zG rfl rfl) ?_
  refine sq rfl rfl hn rfl (zG rfl rfl) ?_
  refine sq rfl rfl hn rfl (q_index (i := i) rfl rfl rfl Tryz.underlying22 sz3 rfl (mget hx)) ?_
  refine sq rfl rfl hn rfl (zV rfl rfl Tryz.underlying3 rfl seesF0) ?_
  refine sq rfl rfl hn rfl (zq rfl rfl rfl (r := sumI (xs.take (i + 1))) (by rw [sum_take hx]; exact i64w (by omega) rfl)) ?_
  refine sq rfl rfl hn rfl (zF rfl rfl) ?_
  refine zE (zX (zA (zB ?_)))
  refine sq rfl rfl hn rfl (zG rfl rfl) ?_
  refine sq rfl rfl hn rfl (zq rfl rfl rfl (r := ((i + 1 : Nat) : Int)) (i64w (by omega) (by omega))) ?_
  refine sq rfl rfl hn rfl (zF rfl rfl) ?_
  refine zE ?_
  exact zU ⟨i + 1, by omega⟩ ⟨.inl rfl, .inl rfl, zK _⟩ trivial (by simp only; omega) (by repeat (first | exact kr _ | refine kc rfl ?_)) (by repeat (first | exact kr _ | refine kc rfl ?_))
 ·
  have hie : i = xs.length := by simp only [List.length_map, decide_eq_false_iff_not] at hb0; omega
  subst hie
  refine zk (zI (zI (zS (zA (zC (zB ?_))))))
  refine sq rfl rfl hn rfl (zG rfl rfl) ?_
  refine sq rfl rfl hn rfl (zF rfl rfl) ?_
  refine zE (zA (zP ?_))
  refine zj (zm (.inl rfl) hl rfl (.tmp rfl)) ?_
  rw [List.take_length]
end Go.Proofs.YtaokpncjemkhcaaGreat
namespace Go.Proofs.YtaokpncjemkhcaaGreat
open Go.RowKit
set_option maxRecDepth 20000
set_option linter.all false
def intsB : List Int → List Int → Bool
  | [], [] => true
  | a :: p, b :: q => bif a != b then false else intsB p q
  | _, _ => false
theorem zAI : ∀ {a b : List Int}, intsB a b = true ↔ a = b
  | [], [] => by simp [intsB]
  | [], _ :: _ => by simp [intsB]
  | _ :: _, [] => by simp [intsB]
  | a :: p, b :: q => by
    unfold intsB
    by_cases h : a = b
    · subst h; simp [zAI]
    · simp [h]
def handB (l : Ldg) (h : List Int) : Bool := h.all (fun n => decide (0 ≤ n) && decide (n ≤ 4)) && ((h.length : Int) == l.reg.houses)
theorem kV (a b : List Int) : PureAt Tryz.prog 29 [ints a, ints b] (.bool (intsB a b)) := by
 refine PureAt.of_awp' Tryz.func29 rfl (by kernel_rfl) rfl fun hlen Γ hn hl => ?_
 have hl1 := hlen.1; have hl2 := hlen.2.1
 simp only [List.length_map] at hl1 hl2
 refine zC (zB ?_)
 refine sq rfl rfl hn rfl (zF rfl rfl) ?_
 refine zE (zA (zC (zC (zB ?_))))
 refine sq rfl rfl hn rfl (zG rfl rfl) ?_
 refine sq rfl rfl hn rfl (zu rfl rfl Tryz.underlying22) ?_
 refine sq rfl rfl hn rfl (zG rfl rfl) ?_
 refine sq rfl rfl hn rfl (zu rfl rfl Tryz.underlying22) ?_
 refine sq rfl rfl hn rfl (yR rfl rfl rfl) ?_
 refine zE (zA ?_)
 refine zQ rfl (fun hb0 => ?_) (fun hb0 => ?_)
 ·
  have hne : a ≠ b := fun e => by subst e; simp at hb0
  refine zC (zB ?_)
  refine sq rfl rfl hn rfl (zF rfl rfl) ?_
  refine zE (zA (zP (zM ?_)))
  refine zj (zm (.inl rfl) hl rfl (.tmp rfl)) ?_
  rw [show intsB a b = false from by rw [Bool.eq_false_iff]; exact fun q => hne (zAI.1 q)]
 ·
  have hle : a.length = b.length := by simp at hb0; omega
  refine zT (zA (zC (zC (zB ?_))))
  refine sq rfl rfl hn rfl (zF rfl rfl) ?_
  refine zE (zA (zR ?_))
  refine awp_loop_on (ι := {i : Nat // i ≤ a.length ∧ ∀ j, j < i → a[j]? = b[j]?}) (fun x => (5, true, .d (.int .i64 (x.1 : Nat))) :: anys [11, 12, 13, 14, 17, 18, 19, 20, 21, 22, 23, 24, 25, 15, 16]) (fun x => []) (fun x => a.length - x.1) ⟨0, Nat.zero_le _, fun j hj => by omega⟩ ⟨.inl rfl, zK _⟩ trivial ?_
  rintro ⟨i, hi, hall⟩
  dsimp only
  refine zC (zC (zB ?_))
  refine sq rfl rfl hn rfl (zG rfl rfl) ?_
  refine sq rfl rfl hn rfl (zG rfl rfl) ?_
  refine sq rfl rfl hn rfl (zu rfl rfl Tryz.underlying22) ?_
  refine sq rfl rfl hn rfl (yB rfl rfl rfl) ?_
  refine zE (zA ?_)
  refine zQ rfl (fun hb1 => ?_) (fun hb1 => ?_)
  ·
   have hlt : i < a.length := by simp at hb1; omega
   obtain ⟨x, hx⟩ := z7 hlt
   obtain ⟨y, hy⟩ := z7 (show i < b.length by omega)
   refine zT (zA (zC (zR (zC ?_))))
   refine z6 (W := fun b => True) fmo ?_
   refine d1q (i := 0) rfl (by kernel_rfl) (fun _ _ _ _ h => h) rfl rfl hn rfl (zG rfl rfl) ?_
   refine d1q (i := 1) rfl (by kernel_rfl) (fun _ _ _ _ h => h) rfl rfl hn rfl (zG rfl rfl) ?_
   refine d1q (i := 2) rfl (by kernel_rfl) (fun _ _ _ _ h => h) rfl rfl hn rfl (q_index (i := i) rfl rfl rfl Tryz.underlying22 sz3 rfl (mget hx)) ?_
   refine d1q (i := 3) rfl (by kernel_rfl) (fun _ _ _ _ h => h) rfl rfl hn rfl (zV rfl rfl Tryz.underlying3 rfl seesFA) ?_
   refine d1q (i := 4) rfl (by kernel_rfl) (fun _ _ _ _ h => h) rfl rfl hn rfl (zG rfl rfl) ?_
   refine d1q (i := 5) rfl (by kernel_rfl) (fun _ _ _ _ h => h) rfl rfl hn rfl (zG rfl rfl) ?_
   refine d1q (i := 6) rfl (by kernel_rfl) (fun _ _ _ _ h => h) rfl rfl hn rfl (q_index (i := i) rfl rfl rfl Tryz.underlying22 sz3 rfl (mget hy)) ?_
   refine d1q (i := 7) rfl (by kernel_rfl) (fun _ _ _ _ h => h) rfl rfl hn rfl (zV rfl rfl Tryz.underlying3 rfl seesFA) ?_
   refine d1q (i := 8) rfl (by kernel_rfl) (fun _ _ _ _ h => h) rfl rfl hn rfl (yR rfl rfl rfl) ?_
   refine zL ?_
   refine zl (by kernel_rfl) ?_
   refine zA ?_
   refine zQ rfl (fun hb2 => ?_) (fun hb2 => ?_)
   ·
    have hne : a ≠ b := fun e => by (subst e; rw [hx] at hy; cases hy; simp at hb2)
    refine zC (zB ?_)
    refine sq rfl rfl hn rfl (zF rfl rfl) ?_
    refine zE (zA (zP (zZ (zM (zM (zZ (zM ?_)))))))
    refine zj (zm (.inl rfl) hl rfl (.tmp rfl)) ?_
    rw [show intsB a b = false from by rw [Bool.eq_false_iff]; exact fun q => hne (zAI.1 q)]
   ·
    have hxy : x = y := by simpa using hb2
    refine zT (zX (zA (zB ?_)))
    refine sq rfl rfl hn rfl (zG rfl rfl) ?_
    refine sq rfl rfl hn rfl (zq rfl rfl rfl (r := ((i + 1 : Nat) : Int)) (i64w (by omega) (by omega))) ?_
    refine sq rfl rfl hn rfl (zF rfl rfl) ?_
    refine zE ?_
    exact zU ⟨i + 1, by omega, fun j hj => by (by_cases e : j = i; (subst e; rw [hx, hy, hxy]); exact hall j (by omega))⟩ ⟨.inl rfl, zK _⟩ trivial (by simp only; omega) (by repeat (first | exact kr _ | refine kc rfl ?_)) (by repeat (first | exact kr _ | refine kc rfl ?_))
  ·
   have hie : i = a.length := by simp at hb1; omega
   refine zk (zI (zI (zS (zA (zC (zB ?_))))))
   refine sq rfl rfl hn rfl (zF rfl rfl) ?_
   refine zE (zA (zP ?_))
   refine zj (zm (.inl rfl) hl rfl (.tmp rfl)) ?_
   rw [show intsB a b = true from zAI.2 (List.ext_getElem? fun j => by (by_cases e : j < i; exact hall j e; rw [List.getElem?_eq_none (by omega), List.getElem?_eq_none (by omega)]))]
end Go.Proofs.YtaokpncjemkhcaaGreat
namespace Go.Proofs.YtaokpncjemkhcaaGreat
open Go.RowKit
set_option maxRecDepth 20000
set_option linter.all false
def dueBad (l : Ldg) (q : Due8) : Bool := (!(decide (0 ≤ q.frm) && decide (q.frm ≤ l.reg.houses - 1))) || (!(decide (0 ≤ q.to) && decide (q.to ≤ l.reg.houses - 1))) || (q.frm == q.to) || (!(decide (1 ≤ q.num) && decide (q.num ≤ 4)))
theorem zEI {l : Ldg} {q : Due8} (v : Valid l.reg) : dueBad l q = !(dueB l q) := by
  unfold dueBad dueB
  rw [yP v.h1 v.h4, yP v.h1 v.h4]
  rw [Bool.eq_iff_iff]
  simp
theorem argL_of {l : Ldg} (h : (decide (0 < (l.reg.sights.length : Int)) || !(decide (0 ≤ l.day) && decide (l.day ≤ 9)) || ((l.lends.length : Int) != l.reg.houses)) = true) : argL l = true := by unfold argL; rw [h]; rfl
theorem zFA {l : Ldg} (h : (decide (0 < (l.reg.sights.length : Int)) || !(decide (0 ≤ l.day) && decide (l.day ≤ 9)) || ((l.lends.length : Int) != l.reg.houses)) = false) : argL l = !(l.dues.all (dueB l)) := by unfold argL; rw [h]; rfl
theorem sz33 : Sz Tryz.prog 33 7 := (by kernel_rfl : (Tryz.prog.info? 33).map (·.size) = some 7)
theorem zr35 : (Tryz.prog.info? 35).map (·.zero) = some (some (.agg #[(.int .i64 0), (.int .i64 0), (.int .i64 0)])) := by kernel_rfl
theorem zDt (l : Ldg) : PureAt Tryz.prog 52 [ldgD l] (.int .i64 (checkL l)) := by
 refine PureAt.of_awp' Tryz.func52 rfl (by kernel_rfl) rfl fun hlen Γ hn hl => ?_
 have hl1 := hlen.1 3 (l.dues.map dueE) (by simp)
 simp only [List.length_map] at hl1
 refine zC (zB ?_)
 refine stepW (zr 1 rfl rfl rfl (nb hn rfl) rfl rfl) fun b1 => ?_
 refine sq rfl rfl hn rfl (zF rfl rfl) ?_
 refine zE (zA (zC (zC (zB ?_))))
 refine sq rfl rfl hn rfl (zH rfl rfl Tryz.underlying33 rfl sz26) ?_
 refine sq rfl rfl hn rfl (za rfl rfl (id := 1) rfl Tryz.underlying26 rfl sz26 rfl rfl sees0) ?_
 refine stepW (s_call [] (fun _ => Fault_ok _) rfl (zJ rfl) rfl (nb hn rfl) (fun _ => trivial) rfl rfl (.refl _)) fun _ => ?_
 refine sq rfl rfl hn rfl (zF rfl rfl) ?_
 refine zE (zA (zC (zB ?_)))
 refine sq rfl rfl hn rfl (zG rfl rfl) ?_
 refine sq rfl rfl hn rfl (yR rfl rfl rfl) ?_
 refine zE (zA ?_)
 refine zQ rfl (fun hb0 => ?_) (fun hb0 => ?_)
 ·
  refine zC (zB ?_)
  refine sq rfl rfl hn rfl (zG rfl rfl) ?_
  refine sq rfl rfl hn rfl (zF rfl rfl) ?_
  refine zE (zA (zP (zM ?_)))
  refine zj (zm (.inl rfl) hl rfl (.tmp rfl)) ?_
  rw [show checkL l = checkE l.reg from by unfold checkL; rw [hb0]; rfl]
 ·
  have v : Valid l.reg := zAp (by simpa using hb0)
  have vh := v.h1; have vh4 := v.h4
  refine zT (zA (zC (zC (zB ?_))))
  refine sq rfl rfl hn rfl (zH rfl rfl Tryz.underlying33 rfl sz31) ?_
  refine sq rfl rfl hn rfl (zN rfl rfl (id := 1) rfl Tryz.underlying31 rfl rfl sees0) ?_
  refine sq rfl rfl hn rfl (zu rfl rfl Tryz.underlying31) ?_
  refine sq rfl rfl hn rfl (yq rfl rfl rfl) ?_
  refine zE (zA ?_)
  refine zQ rfl (fun hb1 => ?_) (fun hb1 => ?_)
  ·
   refine zC (zB ?_)
   refine sq rfl rfl hn rfl (zF rfl rfl) ?_
   refine zE (zA (zP (zM ?_)))
   refine zj (zm (.inl rfl) hl rfl (.tmp rfl)) ?_
   simp only [List.length_map] at hb0 hb1; rw [show checkL l = 3 from by unfold checkL; rw [hb0, hb1]; rfl]
  ·
   refine zT (zA (zC (zB ?_)))
   refine sq rfl rfl hn rfl (zH rfl rfl Tryz.underlying33 rfl sz26) ?_
   refine sq rfl rfl hn rfl (zH rfl rfl Tryz.underlying26 rfl sz3) ?_
   refine sq rfl rfl hn rfl (zN rfl rfl (id := 1) rfl Tryz.underlying3 rfl rfl sees0) ?_
   refine sq rfl rfl hn rfl (zF rfl rfl) ?_
   refine zE (zA (zC (zC (zB ?_))))
   refine sq rfl rfl hn rfl (zH rfl rfl Tryz.underlying33 rfl sz26) ?_
   refine sq rfl rfl hn rfl (zH rfl rfl Tryz.underlying26 rfl sz24) ?_
   refine sq rfl rfl hn rfl (zN rfl rfl (id := 1) rfl Tryz.underlying24 rfl rfl sees0) ?_
   refine sq rfl rfl hn rfl (zu rfl rfl Tryz.underlying24) ?_
   refine sq rfl rfl hn rfl (yq rfl rfl rfl) ?_
   refine sq rfl rfl hn rfl (zG rfl rfl) ?_
   refine stepG [] (zD rfl rfl rfl) rfl (nb hn rfl) (fun hc => trivial) (fun hc => zH rfl rfl Tryz.underlying33 rfl sz3) ?_
   refine stepG [(26, _)] (zD rfl rfl rfl) rfl (nb hn rfl) (fun hc => ⟨⟨_, rfl, hc⟩, trivial⟩) (fun hc => zN rfl rfl (id := 1) rfl Tryz.underlying3 rfl rfl sees0) ?_
   refine stepW (s_call [(27, _)] (fun hc => k8 _ _ _) rfl (zD rfl rfl rfl) rfl (nb hn rfl) (fun hc => ⟨⟨_, rfl, hc⟩, trivial⟩) rfl rfl (.refl _)) fun _ => ?_
   refine stepG [(28, _)] (zD rfl rfl rfl) rfl (nb hn rfl) (fun hc => ⟨⟨_, rfl, hc⟩, trivial⟩) (fun hc => yE rfl rfl) ?_
   refine sq rfl rfl hn rfl (q_or rfl rfl rfl (by intro hB; first | (rw [hB]; rfl) | (rw [hB, hc]; rfl) | simp_all)) ?_
   refine sq rfl rfl hn rfl (zG rfl rfl) ?_
   refine stepG [] (zD rfl rfl rfl) rfl (nb hn rfl) (fun hc => trivial) (fun hc => zH rfl rfl Tryz.underlying33 rfl sz30) ?_
   refine stepG [(32, _)] (zD rfl rfl rfl) rfl (nb hn rfl) (fun hc => ⟨⟨_, rfl, hc⟩, trivial⟩) (fun hc => zN rfl rfl (id := 1) rfl Tryz.underlying30 rfl rfl sees0) ?_
   refine stepG [(33, _)] (zD rfl rfl rfl) rfl (nb hn rfl) (fun hc => ⟨⟨_, rfl, hc⟩, trivial⟩) (fun hc => zu rfl rfl Tryz.underlying30) ?_
   refine stepG [] (zD rfl rfl rfl) rfl (nb hn rfl) (fun hc => trivial) (fun hc => zG rfl rfl) ?_
   refine stepG [(34, _), (35, _)] (zD rfl rfl rfl) rfl (nb hn rfl) (fun hc => ⟨⟨_, rfl, hc⟩, ⟨_, rfl, hc⟩, trivial⟩) (fun hc => yR rfl rfl rfl) ?_
   refine sq rfl rfl hn rfl (q_or rfl rfl rfl (by intro hB; first | (rw [hB]; rfl) | (rw [hB, hc]; rfl) | simp_all)) ?_
   refine zE (zA ?_)
   refine zQ rfl (fun hb2 => ?_) (fun hb2 => ?_)
   ·
    refine zC (zB ?_)
    refine sq rfl rfl hn rfl (zF rfl rfl) ?_
    refine zE (zA (zP (zM ?_)))
    refine zj (zm (.inl rfl) hl rfl (.tmp rfl)) ?_
    simp only [List.length_map] at hb0 hb1 hb2; rw [show checkL l = 1 from by unfold checkL; rw [hb0, hb1, argL_of hb2]; rfl]
   ·
    refine zT (zA (zC (zC (zB ?_))))
    refine sq rfl rfl hn rfl (zF rfl rfl) ?_
    refine zE (zA (zR ?_))
    refine awp_loop_on (ι := { i : Nat // i ≤ l.dues.length ∧ (l.dues.take i).all (dueB l) = true }) (fun i => (5, true, .d (.int .i64 (i.1 : Int))) :: anys [38, 39, 40, 41, 42, 45, 46, 47, 48, 49, 6, 50, 51, 52, 53, 54, 55, 56, 57, 58, 59, 60, 61, 62, 63, 64, 65, 66, 67, 68, 69, 70, 71, 72, 73, 74, 75, 76, 43, 44]) (fun i => gones [6]) (fun i => l.dues.length - i.1) ⟨0, by simp⟩ ⟨.inl rfl, zK _⟩ (zW _) ?_
    rintro ⟨i, hi, hall⟩
    dsimp only
    refine zC (zC (zB ?_))
    refine sq rfl rfl hn rfl (zG rfl rfl) ?_
    refine sq rfl rfl hn rfl (zH rfl rfl Tryz.underlying33 rfl sz31) ?_
    refine sq rfl rfl hn rfl (zN rfl rfl (id := 1) rfl Tryz.underlying31 rfl rfl sees0) ?_
    refine sq rfl rfl hn rfl (zu rfl rfl Tryz.underlying31) ?_
    refine sq rfl rfl hn rfl (yB rfl rfl rfl) ?_
    refine zE (zA ?_)
    refine zQ rfl (fun hb3 => ?_) (fun hb3 => ?_)
    ·
     have hlt : i < l.dues.length := by simpa using hb3
     obtain ⟨q, hx⟩ := z7 hlt
     refine zT (zA (zC (zR (zC (zB ?_)))))
     refine sq rfl rfl hn rfl (zH rfl rfl Tryz.underlying33 rfl sz31) ?_
     refine sq rfl rfl hn rfl (zN rfl rfl (id := 1) rfl Tryz.underlying31 rfl rfl sees0) ?_
     refine sq rfl rfl hn rfl (zG rfl rfl) ?_
     refine sq rfl rfl hn rfl (q_index (i := i) rfl rfl rfl Tryz.underlying31 sz35 rfl (mget hx)) ?_
     refine sq rfl rfl hn rfl (zf rfl rfl Tryz.underlying35 rfl sz35 rfl rfl seesF0) ?_
     refine stepW (zg 6 rfl rfl rfl (nb hn rfl) zr35 rfl rfl) fun b6 => ?_
     refine stepW (zh rfl rfl rfl rfl rfl rfl (id := 6) rfl sz35 rfl (Nat.le_of_ble_eq_true rfl) rfl trivial) fun _ => ?_
     refine zE (zA (zC (zB ?_)))
     refine sq rfl rfl hn rfl (zH rfl rfl Tryz.underlying35 rfl sz3) ?_
     refine sq rfl rfl hn rfl (zN rfl rfl (id := 6) rfl Tryz.underlying3 rfl rfl sees0) ?_
     refine sq rfl rfl hn rfl (zG rfl rfl) ?_
     refine sq rfl rfl hn rfl (kG rfl rfl rfl (i64w (by omega) rfl)) ?_
     refine stepW (s_call [] (fun _ => k8 _ _ _) rfl (zJ rfl) rfl (nb hn rfl) (fun _ => trivial) rfl rfl (.refl _)) fun _ => ?_
     refine sq rfl rfl hn rfl (yE rfl rfl) ?_
     refine sq rfl rfl hn rfl (zG rfl rfl) ?_
     refine stepG [] (zD rfl rfl rfl) rfl (nb hn rfl) (fun hc => trivial) (fun hc => zH rfl rfl Tryz.underlying35 rfl sz3) ?_
     refine stepG [(57, _)] (zD rfl rfl rfl) rfl (nb hn rfl) (fun hc => ⟨⟨_, rfl, hc⟩, trivial⟩) (fun hc => zN rfl rfl (id := 6) rfl Tryz.underlying3 rfl rfl sees0) ?_
     refine stepG [] (zD rfl rfl rfl) rfl (nb hn rfl) (fun hc => trivial) (fun hc => zG rfl rfl) ?_
     refine stepG [(59, _)] (zD rfl rfl rfl) rfl (nb hn rfl) (fun hc => ⟨⟨_, rfl, hc⟩, trivial⟩) (fun hc => kG rfl rfl rfl (i64w (by omega) rfl)) ?_
     refine stepW (s_call [(58, _), (60, _)] (fun hc => k8 _ _ _) rfl (zD rfl rfl rfl) rfl (nb hn rfl) (fun hc => ⟨⟨_, rfl, hc⟩, ⟨_, rfl, hc⟩, trivial⟩) rfl rfl (.refl _)) fun _ => ?_
     refine stepG [(61, _)] (zD rfl rfl rfl) rfl (nb hn rfl) (fun hc => ⟨⟨_, rfl, hc⟩, trivial⟩) (fun hc => yE rfl rfl) ?_
     refine sq rfl rfl hn rfl (q_or rfl rfl rfl (by intro hB; first | (rw [hB]; rfl) | (rw [hB, hc]; rfl) | simp_all)) ?_
     refine sq rfl rfl hn rfl (zG rfl rfl) ?_
     refine stepG [] (zD rfl rfl rfl) rfl (nb hn rfl) (fun hc => trivial) (fun hc => zH rfl rfl Tryz.underlying35 rfl sz3) ?_
     refine stepG [(65, _)] (zD rfl rfl rfl) rfl (nb hn rfl) (fun hc => ⟨⟨_, rfl, hc⟩, trivial⟩) (fun hc => zN rfl rfl (id := 6) rfl Tryz.underlying3 rfl rfl sees0) ?_
     refine stepG [] (zD rfl rfl rfl) rfl (nb hn rfl) (fun hc => trivial) (fun hc => zH rfl rfl Tryz.underlying35 rfl sz3) ?_
     refine stepG [(67, _)] (zD rfl rfl rfl) rfl (nb hn rfl) (fun hc => ⟨⟨_, rfl, hc⟩, trivial⟩) (fun hc => zN rfl rfl (id := 6) rfl Tryz.underlying3 rfl rfl sees0) ?_
     refine stepG [(66, _), (68, _)] (zD rfl rfl rfl) rfl (nb hn rfl) (fun hc => ⟨⟨_, rfl, hc⟩, ⟨_, rfl, hc⟩, trivial⟩) (fun hc => yM rfl rfl rfl) ?_
     refine sq rfl rfl hn rfl (q_or rfl rfl rfl (by intro hB; first | (rw [hB]; rfl) | (rw [hB, hc]; rfl) | simp_all)) ?_
     refine sq rfl rfl hn rfl (zG rfl rfl) ?_
     refine stepG [] (zD rfl rfl rfl) rfl (nb hn rfl) (fun hc => trivial) (fun hc => zH rfl rfl Tryz.underlying35 rfl sz3) ?_
     refine stepG [(72, _)] (zD rfl rfl rfl) rfl (nb hn rfl) (fun hc => ⟨⟨_, rfl, hc⟩, trivial⟩) (fun hc => zN rfl rfl (id := 6) rfl Tryz.underlying3 rfl rfl sees0) ?_
     refine stepW (s_call [(73, _)] (fun hc => k8 _ _ _) rfl (zD rfl rfl rfl) rfl (nb hn rfl) (fun hc => ⟨⟨_, rfl, hc⟩, trivial⟩) rfl rfl (.refl _)) fun _ => ?_
     refine stepG [(74, _)] (zD rfl rfl rfl) rfl (nb hn rfl) (fun hc => ⟨⟨_, rfl, hc⟩, trivial⟩) (fun hc => yE rfl rfl) ?_
     refine sq rfl rfl hn rfl (q_or rfl rfl rfl (by intro hB; first | (rw [hB]; rfl) | (rw [hB, hc]; rfl) | simp_all)) ?_
     refine zE (zA ?_)
     refine zQ rfl (fun hb4 => ?_) (fun hb4 => ?_)
     ·
      refine zC (zB ?_)
      refine sq rfl rfl hn rfl (zF rfl rfl) ?_
      refine zE (zA (zP (zZ (zM (zM (zZ (zM ?_)))))))
      refine zj (zm (.inl rfl) hl rfl (.tmp rfl)) ?_
      simp only [List.length_map] at hb0 hb1 hb2; rw [show checkL l = 1 from by unfold checkL; rw [hb0, hb1, zFA hb2, show l.dues.all (dueB l) = false from List.all_eq_false.2 ⟨q, List.mem_of_getElem? hx, by have h := hb4; rw [show (_ || _) = dueBad l q from rfl, zEI v] at h; simpa using h⟩]; rfl]
     ·
      refine zT (zX (zA (zB ?_)))
      refine sq rfl rfl hn rfl (zG rfl rfl) ?_
      refine sq rfl rfl hn rfl (zq rfl rfl rfl (r := ((i + 1 : Nat) : Int)) (i64w (by omega) (by omega))) ?_
      refine sq rfl rfl hn rfl (zF rfl rfl) ?_
      refine zE ?_
      exact zU ⟨i + 1, by omega, yL hx hall (by have h := hb4; rw [show (_ || _) = dueBad l q from rfl, zEI v] at h; simpa using h)⟩ ⟨.inl rfl, zK _⟩ (zW _) (by simp only; omega) (by repeat (first | exact kr _ | refine kc rfl ?_)) (by repeat (first | exact kr _ | refine kc rfl ?_))
    ·
     have hall2 := zA3 (f := dueE) (by simpa using hb3) hi hall
     refine zk (zI (zI (zS (zA (zC (zB ?_))))))
     refine sq rfl rfl hn rfl (zF rfl rfl) ?_
     refine zE (zA (zP ?_))
     refine zj (zm (.inl rfl) hl rfl (.tmp rfl)) ?_
     simp only [List.length_map] at hb0 hb1 hb2; rw [show checkL l = 0 from by unfold checkL; rw [hb0, hb1, zFA hb2, hall2]; rfl]
end Go.Proofs.YtaokpncjemkhcaaGreat
namespace Go.Proofs.YtaokpncjemkhcaaGreat
open Go.RowKit
set_option maxRecDepth 20000
set_option linter.all false
theorem check_reg {l : Ldg} (h : checkL l = 0) : checkE l.reg = 0 := by
  unfold checkL at h
  by_cases e : checkE l.reg = 0
  · exact e
  · rw [show (checkE l.reg != 0) = true by simpa using e, cond_true] at h; exact h
theorem ready8_ok (l : Ldg) : PureAt Tryz.prog 38 [ldgD l] (.bool (thinL l && (checkL l == 0))) := by
 refine PureAt.of_awp Tryz.func38 rfl (by kernel_rfl) (Nat.le_of_ble_eq_true rfl) fun Γ hn hl => ?_
 refine zC (zB ?_)
 refine stepW (zr 1 rfl rfl rfl (nb hn rfl) rfl rfl) fun b1 => ?_
 refine sq rfl rfl hn rfl (zF rfl rfl) ?_
 refine zE (zA (zC (zB ?_)))
 refine sq rfl rfl hn rfl (za rfl rfl (id := 1) rfl Tryz.underlying33 rfl sz33 rfl rfl sees0) ?_
 refine stepW (s_call [] (fun _ => Thin8_ok _) rfl (zJ rfl) rfl (nb hn rfl) (fun _ => trivial) rfl rfl (.refl _)) fun _ => ?_
 refine sq rfl rfl hn rfl (zG rfl rfl) ?_
 refine stepG [] (zD rfl rfl rfl) rfl (nb hn rfl) (fun hc => trivial) (fun hc => za rfl rfl (id := 1) rfl Tryz.underlying33 rfl sz33 rfl rfl sees0) ?_
 refine stepW (s_call [(6, _)] (fun hc => zDt _) rfl (zD rfl rfl rfl) rfl (nb hn rfl) (fun hc => ⟨⟨_, rfl, hc⟩, trivial⟩) rfl rfl (.refl _)) fun _ => ?_
 refine stepG [(7, _)] (zD rfl rfl rfl) rfl (nb hn rfl) (fun hc => ⟨⟨_, rfl, hc⟩, trivial⟩) (fun hc => yM rfl rfl rfl) ?_
 refine sq rfl rfl hn rfl (yC rfl rfl rfl (by intro hB; first | (rw [hB]; rfl) | (rw [hB, hc]; rfl) | simp_all)) ?_
 refine sq rfl rfl hn rfl (zF rfl rfl) ?_
 refine zE (zA (zP ?_))
 exact zm (.inl rfl) hl rfl (.tmp rfl)
end Go.Proofs.YtaokpncjemkhcaaGreat
namespace Go.Proofs.YtaokpncjemkhcaaGreat
open Go.RowKit
set_option maxRecDepth 20000
set_option linter.all false
@[reducible] def stE (p : Int × Int) : List D := [.int .i64 p.1, .int .i64 p.2]
@[reducible] def stsD (l : List (Int × Int)) : D := .slice 2 (l.map stE)
def lackL (l : List (Int × Int)) : Int := sumI (l.map fun p => max 0 (-p.2))
theorem lack_take {l : List (Int × Int)} {i : Nat} {p : Int × Int} (h : l[i]? = some p) : lackL (l.take (i + 1)) = lackL (l.take i) + max 0 (-p.2) := by
  unfold lackL; rw [List.take_add_one, h, List.map_append, kN]; simp [sumI]
theorem lack_bd {l : List (Int × Int)} (h : ∀ p ∈ l, -1000 ≤ p.2 ∧ p.2 ≤ 1000) : -(1000 * (l.length : Int)) ≤ lackL l ∧ lackL l ≤ 1000 * l.length := by
  have := zEP (xs := l.map fun p => max 0 (-p.2)) fun x hx => by obtain ⟨p, hp, rfl⟩ := List.mem_map.1 hx; have := h p hp; omega
  simpa [lackL] using this
def lentF (p : (Int × Int) × Bool) : Int := if p.2 = true then max 0 (min p.1.2 p.1.1) else 0
def lentL (l : List (Int × Int)) (ls : List Bool) : Int := sumI ((l.zip ls).map lentF)
theorem zEG {z : List ((Int × Int) × Bool)} {i : Nat} {p : (Int × Int) × Bool} (h : z[i]? = some p) : sumI ((z.take (i + 1)).map lentF) = sumI ((z.take i).map lentF) + lentF p := by
  rw [List.take_add_one, h, List.map_append, kN]; simp [sumI]
theorem lent_bd {z : List ((Int × Int) × Bool)} (h : ∀ p ∈ z, p.1.2 ≤ 1000) : -(1000 * (z.length : Int)) ≤ sumI (z.map lentF) ∧ sumI (z.map lentF) ≤ 1000 * z.length := by
  have := zEP (xs := z.map lentF) fun x hx => by obtain ⟨p, hp, rfl⟩ := List.mem_map.1 hx; have := h p hp; unfold lentF; split <;> omega
  simpa using this
theorem zFf {l : List (Int × Int)} {ls : List Bool} {i : Nat} {p : Int × Int} {b : Bool} (h : l[i]? = some p) (h2 : ls[i]? = some b) : (l.zip ls)[i]? = some (p, b) := by rw [List.getElem?_zip_eq_some]; exact ⟨h, h2⟩
theorem sz169 : Sz Tryz.prog 169 2 := (by kernel_rfl : (Tryz.prog.info? 169).map (·.size) = some 2)
theorem sz170 : Sz Tryz.prog 170 1 := (by kernel_rfl : (Tryz.prog.info? 170).map (·.size) = some 1)
theorem sz171 : Sz Tryz.prog 171 1 := (by kernel_rfl : (Tryz.prog.info? 171).map (·.size) = some 1)
theorem zr169 : (Tryz.prog.info? 169).map (·.zero) = some (some (.agg #[(.int .i64 0), (.int .i64 0)])) := by kernel_rfl
theorem sumLack_ok (l : Ldg) (sts : List (Int × Int)) (hp5 : ∀ p ∈ sts, -1000 ≤ p.2 ∧ p.2 ≤ 1000) (hl5 : sts.length ≤ 4) : PureAt Tryz.prog 113 [.agg [.fn (.func 109) [] [], .fn (.func 110) [] []], ldgD l, stsD sts] (.int .i64 (lackL sts)) := by
 refine PureAt.of_awp Tryz.func113 rfl (by kernel_rfl) (Nat.le_of_ble_eq_true rfl) fun Γ hn hl => ?_
 refine zC (zB ?_)
 refine stepW (zr 3 rfl rfl rfl (nb hn rfl) rfl rfl) fun b3 => ?_
 refine stepW (zr 4 rfl rfl rfl (nb hn rfl) rfl rfl) fun b4 => ?_
 refine sq rfl rfl hn rfl (zF rfl rfl) ?_
 refine zE (zA (zC (zC (zB ?_))))
 refine sq rfl rfl hn rfl (zG rfl rfl) ?_
 refine sq rfl rfl hn rfl (zu rfl rfl Tryz.underlying167) ?_
 refine sq rfl rfl hn rfl (zG rfl rfl) ?_
 refine zE (zA (zR ?_))
 refine awp_loop_on (ι := {i : Nat // i ≤ sts.length}) (fun x => (6, true, .d (.int .i64 (lackL (sts.take x.1)))) :: (11, true, .d (.int .i64 (x.1 : Nat))) :: anys [12, 13, 14, 15, 8, 7, 16, 17, 18, 19, 20, 21, 22, 23, 24, 25, 26, 27]) (fun x => gones [8]) (fun x => sts.length - x.1) ⟨0, Nat.zero_le _⟩ ⟨.inl rfl, .inl rfl, zK _⟩ (zW _) ?_
 rintro ⟨i, hi⟩
 dsimp only
 refine zC (zB ?_)
 refine sq rfl rfl hn rfl (yB rfl rfl rfl) ?_
 refine zE (zA (zC ?_))
 refine zQ rfl (fun hb0 => ?_) (fun hb0 => ?_)
 ·
  have hlt : i < sts.length := by simpa using hb0
  obtain ⟨p, hx⟩ := z7 hlt
  have hp := hp5 p (List.mem_of_getElem? hx)
  have hb5 := lack_bd (l := sts.take i) fun x hx => hp5 x (List.mem_of_mem_take hx)
  have hb6 : (sts.take i).length ≤ 4 := by simp; omega
  refine zT (zA (zC (zR (zC (zB ?_)))))
  refine sq rfl rfl hn rfl (zG rfl rfl) ?_
  refine sq rfl rfl hn rfl (q_index (i := i) rfl rfl rfl Tryz.underlying167 sz169 rfl (mget hx)) ?_
  refine sq rfl rfl hn rfl (zf rfl rfl Tryz.underlying169 rfl sz169 rfl rfl seesF0) ?_
  refine stepW (zg 8 rfl rfl rfl (nb hn rfl) zr169 rfl rfl) fun b8 => ?_
  refine sq rfl rfl hn rfl (zF rfl rfl) ?_
  refine stepW (zh rfl rfl rfl rfl rfl rfl (id := 8) rfl sz169 rfl (Nat.le_of_ble_eq_true rfl) rfl trivial) fun _ => ?_
  refine zE (zA (zC (zB ?_)))
  refine sq rfl rfl hn rfl (zH rfl rfl Tryz.underlying173 rfl sz171) ?_
  refine sq rfl rfl hn rfl (zN rfl rfl (id := 3) rfl Tryz.underlying171 rfl rfl sees0) ?_
  refine sq rfl rfl hn rfl (za rfl rfl (id := 4) rfl Tryz.underlying50 rfl sz50 rfl rfl sees0) ?_
  refine sq rfl rfl hn rfl (zG rfl rfl) ?_
  refine stepW (s_call [] (fun _ => each_ok _ _) rfl (zJ rfl) rfl (nb hn rfl) (fun _ => trivial) rfl rfl (.refl _)) fun _ => ?_
  refine zE (zA ?_)
  refine zQ rfl (fun hb1 => ?_) (fun hb1 => ?_)
  ·
   refine zB ?_
   refine sq rfl rfl hn rfl (zG rfl rfl) ?_
   refine sq rfl rfl hn rfl (zH rfl rfl Tryz.underlying173 rfl sz170) ?_
   refine sq rfl rfl hn rfl (zN rfl rfl (id := 3) rfl Tryz.underlying170 rfl rfl sees0) ?_
   refine sq rfl rfl hn rfl (za rfl rfl (id := 8) rfl Tryz.underlying169 rfl sz169 rfl rfl sees0) ?_
   refine stepW (s_call [] (fun _ => lacks_ok _ _ hp) rfl (zJ rfl) rfl (nb hn rfl) (fun _ => trivial) rfl rfl (.refl _)) fun _ => ?_
   refine sq rfl rfl hn rfl (zq rfl rfl rfl (r := lackL (sts.take (i + 1))) (by rw [lack_take hx]; exact i64w (by omega) rfl)) ?_
   refine sq rfl rfl hn rfl (zF rfl rfl) ?_
   refine zE (zX (zA (zB ?_)))
   refine sq rfl rfl hn rfl (zq rfl rfl rfl (r := ((i + 1 : Nat) : Int)) (i64w (by omega) (by omega))) ?_
   refine sq rfl rfl hn rfl (zG rfl rfl) ?_
   refine zE ?_
   exact zU ⟨i + 1, by omega⟩ ⟨.inl rfl, .inl rfl, zK _⟩ (zW _) (by simp only; omega) (by repeat (first | exact kr _ | refine kc rfl ?_)) (by repeat (first | exact kr _ | refine kc rfl ?_))
  ·
   cases hb1
 ·
  have hie : i = sts.length := by simp only [List.length_map, decide_eq_false_iff_not] at hb0; omega
  subst hie
  refine zk (zI (zI (zS (zA (zC (zB ?_))))))
  refine sq rfl rfl hn rfl (zG rfl rfl) ?_
  refine sq rfl rfl hn rfl (zF rfl rfl) ?_
  refine zE (zA (zP ?_))
  refine zj (zm (.inl rfl) hl rfl (.tmp rfl)) ?_
  rw [List.take_length]
theorem sumLend_ok (l : Ldg) (sts : List (Int × Int)) (hp5 : ∀ p ∈ sts, -1000 ≤ p.2 ∧ p.2 ≤ 1000) (hl5 : sts.length ≤ 4) (hl6 : l.lends.length = sts.length) : PureAt Tryz.prog 113 [.agg [.fn (.func 111) [] [], .fn (.func 112) [] []], ldgD l, stsD sts] (.int .i64 (lentL sts l.lends)) := by
 refine PureAt.of_awp Tryz.func113 rfl (by kernel_rfl) (Nat.le_of_ble_eq_true rfl) fun Γ hn hl => ?_
 refine zC (zB ?_)
 refine stepW (zr 3 rfl rfl rfl (nb hn rfl) rfl rfl) fun b3 => ?_
 refine stepW (zr 4 rfl rfl rfl (nb hn rfl) rfl rfl) fun b4 => ?_
 refine sq rfl rfl hn rfl (zF rfl rfl) ?_
 refine zE (zA (zC (zC (zB ?_))))
 refine sq rfl rfl hn rfl (zG rfl rfl) ?_
 refine sq rfl rfl hn rfl (zu rfl rfl Tryz.underlying167) ?_
 refine sq rfl rfl hn rfl (zG rfl rfl) ?_
 refine zE (zA (zR ?_))
 refine awp_loop_on (ι := {i : Nat // i ≤ sts.length}) (fun x => (6, true, .d (.int .i64 (sumI (((sts.zip l.lends).take x.1).map lentF)))) :: (11, true, .d (.int .i64 (x.1 : Nat))) :: anys [12, 13, 14, 15, 8, 7, 16, 17, 18, 19, 20, 21, 22, 23, 24, 25, 26, 27]) (fun x => gones [8]) (fun x => sts.length - x.1) ⟨0, Nat.zero_le _⟩ ⟨.inl rfl, .inl rfl, zK _⟩ (zW _) ?_
 rintro ⟨i, hi⟩
 dsimp only
 refine zC (zB ?_)
 refine sq rfl rfl hn rfl (yB rfl rfl rfl) ?_
 refine zE (zA (zC ?_))
 refine zQ rfl (fun hb0 => ?_) (fun hb0 => ?_)
 ·
  have hlt : i < sts.length := by simpa using hb0
  obtain ⟨p, hx⟩ := z7 hlt
  obtain ⟨bl, hbl⟩ := z7 (show i < l.lends.length by omega)
  have hz := zFf hx hbl
  have hp := hp5 p (List.mem_of_getElem? hx)
  have hb5 := lent_bd (z := (sts.zip l.lends).take i) fun x hx => (hp5 x.1 (List.of_mem_zip (List.mem_of_mem_take hx)).1).2
  have hb6 : ((sts.zip l.lends).take i).length ≤ 4 := by simp; omega
  refine zT (zA (zC (zR (zC (zB ?_)))))
  refine sq rfl rfl hn rfl (zG rfl rfl) ?_
  refine sq rfl rfl hn rfl (q_index (i := i) rfl rfl rfl Tryz.underlying167 sz169 rfl (mget hx)) ?_
  refine sq rfl rfl hn rfl (zf rfl rfl Tryz.underlying169 rfl sz169 rfl rfl seesF0) ?_
  refine stepW (zg 8 rfl rfl rfl (nb hn rfl) zr169 rfl rfl) fun b8 => ?_
  refine sq rfl rfl hn rfl (zF rfl rfl) ?_
  refine stepW (zh rfl rfl rfl rfl rfl rfl (id := 8) rfl sz169 rfl (Nat.le_of_ble_eq_true rfl) rfl trivial) fun _ => ?_
  refine zE (zA (zC (zB ?_)))
  refine sq rfl rfl hn rfl (zH rfl rfl Tryz.underlying173 rfl sz171) ?_
  refine sq rfl rfl hn rfl (zN rfl rfl (id := 3) rfl Tryz.underlying171 rfl rfl sees0) ?_
  refine sq rfl rfl hn rfl (za rfl rfl (id := 4) rfl Tryz.underlying50 rfl sz50 rfl rfl sees0) ?_
  refine sq rfl rfl hn rfl (zG rfl rfl) ?_
  refine stepW (s_call [] (fun _ => lender_ok _ _ _ hbl) rfl (zJ rfl) rfl (nb hn rfl) (fun _ => trivial) rfl rfl (.refl _)) fun _ => ?_
  refine zE (zA ?_)
  refine yK (e := .normal) (ι := Unit) (fun x => (6, true, .d (.int .i64 (sumI (((sts.zip l.lends).take (i + 1)).map lentF)))) :: anys [21, 22, 23, 24, 25, 26]) (fun x => []) (fun hJ1 => ?_) ?_
  ·
   refine zQ rfl (fun hb1 => ?_) (fun hb1 => ?_)
   ·
    have q1 : bl = true := hb1
    refine zB ?_
    refine sq rfl rfl hn rfl (zG rfl rfl) ?_
    refine sq rfl rfl hn rfl (zH rfl rfl Tryz.underlying173 rfl sz170) ?_
    refine sq rfl rfl hn rfl (zN rfl rfl (id := 3) rfl Tryz.underlying170 rfl rfl sees0) ?_
    refine sq rfl rfl hn rfl (za rfl rfl (id := 8) rfl Tryz.underlying169 rfl sz169 rfl rfl sees0) ?_
    refine stepW (s_call [] (fun _ => lends_ok _ _) rfl (zJ rfl) rfl (nb hn rfl) (fun _ => trivial) rfl rfl (.refl _)) fun _ => ?_
    refine sq rfl rfl hn rfl (zq rfl rfl rfl (r := sumI (((sts.zip l.lends).take (i + 1)).map lentF)) (by rw [zEG hz, show lentF (p, bl) = max 0 (min p.2 p.1) from if_pos q1]; exact i64w (by omega) rfl)) ?_
    refine sq rfl rfl hn rfl (zF rfl rfl) ?_
    refine zE ?_
    exact aend_join_on hJ1 () ⟨.inl rfl, zK _⟩ trivial (by repeat (first | exact kr _ | refine kc rfl ?_)) (by repeat (first | exact kr _ | refine kc rfl ?_))
   ·
    have q1 : bl = false := hb1
    have hq7 : sumI (((sts.zip l.lends).take i).map lentF) = sumI (((sts.zip l.lends).take (i + 1)).map lentF) := by rw [zEG hz, show lentF (p, bl) = 0 from if_neg (by simp [q1]), Int.add_zero]
    refine zT ?_
    exact aend_join_on hJ1 () ⟨.inl (congrArg (fun n : Int => some (true, TV.d (.int .i64 n))) hq7), zK _⟩ trivial (by repeat (first | exact kr _ | refine kc rfl ?_)) (by repeat (first | exact kr _ | refine kc rfl ?_))
  ·
   rintro _
   refine zX (zA (zB ?_))
   refine sq rfl rfl hn rfl (zq rfl rfl rfl (r := ((i + 1 : Nat) : Int)) (i64w (by omega) (by omega))) ?_
   refine sq rfl rfl hn rfl (zG rfl rfl) ?_
   refine zE ?_
   exact zU ⟨i + 1, by omega⟩ ⟨.inl rfl, .inl rfl, zK _⟩ (zW _) (by simp only; omega) (by repeat (first | exact kr _ | refine kc rfl ?_)) (by repeat (first | exact kr _ | refine kc rfl ?_))
 ·
  have hie : i = sts.length := by simp only [List.length_map, decide_eq_false_iff_not] at hb0; omega
  subst hie
  refine zk (zI (zI (zS (zA (zC (zB ?_))))))
  refine sq rfl rfl hn rfl (zG rfl rfl) ?_
  refine sq rfl rfl hn rfl (zF rfl rfl) ?_
  refine zE (zA (zP ?_))
  refine zj (zm (.inl rfl) hl rfl (.tmp rfl)) ?_
  rw [List.take_of_length_le (by simp [List.length_zip]; omega)]; rfl
end Go.Proofs.YtaokpncjemkhcaaGreat
namespace Go.Proofs.YtaokpncjemkhcaaGreat
set_option linter.all false
/-- What each house had, and what is left. -/
def stsF (hand : List Int) (qs : List Due8) (d : List Int) (N : Nat) : List (Int × Int) := (List.range N).map fun i => (hand.getD i 0, leftH hand qs d i)
theorem kC {hand : List Int} {qs : List Due8} {d : List Int} {N : Nat} : (stsF hand qs d N).length = N := by simp [stsF]
theorem zBF {hand : List Int} {qs : List Due8} {d : List Int} {N i : Nat} (h : i < N) : (stsF hand qs d N)[i]? = some (hand.getD i 0, leftH hand qs d i) := by
  unfold stsF; rw [List.getElem?_map, List.getElem?_range h]; rfl
theorem net_take {qs : List Due8} {d : List Int} {k : Nat} {q : Due8} {x : Int} (hq : qs[k]? = some q) (hx : d[k]? = some x) (hl : d.length = qs.length) (h : Int) :
    netH (qs.take (k + 1)) (d.take (k + 1)) h = netH (qs.take k) (d.take k) h + ((if q.to = h then x else 0) - (if q.frm = h then x else 0)) := by
  have h1 := (List.getElem?_eq_some_iff.1 hq).1
  rw [List.take_add_one, List.take_add_one, hq, hx, zCb _ _ _ _ _ (by simp; omega)]
  simp [netH]
theorem sts_step {hand : List Int} {qs : List Due8} {d : List Int} {N k f t : Nat} {q : Due8} {x : Int} (hq : qs[k]? = some q) (hx : d[k]? = some x) (hl : d.length = qs.length) (hf : q.frm = (f : Nat)) (ht : q.to = (t : Nat)) (hft : f ≠ t) (hfN : f < N) (htN : t < N) :
    ((stsF hand (qs.take k) (d.take k) N).set f (hand.getD f 0, leftH hand (qs.take k) (d.take k) f - x)).set t (hand.getD t 0, leftH hand (qs.take k) (d.take k) t + x) = stsF hand (qs.take (k + 1)) (d.take (k + 1)) N := by
  apply List.ext_getElem?
  intro i
  rw [List.getElem?_set, List.getElem?_set, List.length_set, kC]
  by_cases hi : i < N
  · rw [zBF hi, zBF hi]
    simp only [leftH, net_take hq hx hl, hf, ht]
    by_cases e1 : t = i
    · subst e1
      rw [if_pos rfl, if_pos hi, if_pos rfl, if_neg (by omega)]
      congr 2; omega
    · rw [if_neg e1, if_neg (show ¬ ((t : Nat) : Int) = (i : Int) by omega)]
      by_cases e2 : f = i
      · subst e2
        rw [if_pos rfl, if_pos hi, if_pos rfl]
        congr 2; omega
      · rw [if_neg e2, if_neg (show ¬ ((f : Nat) : Int) = (i : Int) by omega)]
        congr 2; omega
  · rw [if_neg (by omega), if_neg (by omega)]
    have h1 : (stsF hand (qs.take k) (d.take k) N)[i]? = none := List.getElem?_eq_none (by rw [kC]; omega)
    have h2 : (stsF hand (qs.take (k + 1)) (d.take (k + 1)) N)[i]? = none := List.getElem?_eq_none (by rw [kC]; omega)
    rw [h1, h2]
theorem zGE : ∀ {qs : List Due8} {d : List Int} {h : Int}, (∀ x ∈ d, 0 ≤ x ∧ x ≤ 4) → -(4 * (qs.length : Int)) ≤ netH qs d h ∧ netH qs d h ≤ 4 * qs.length
  | [], _, _, _ => by simp [netH]
  | _ :: _, [], _, _ => by simp [netH]; omega
  | q :: qs, x :: xs, h, hx => by
    have h1 := hx x List.mem_cons_self
    have h2 := zGE (qs := qs) (d := xs) (h := h) fun y hy => hx y (List.mem_cons_of_mem _ hy)
    simp only [netH, List.length_cons]
    split <;> split <;> omega
end Go.Proofs.YtaokpncjemkhcaaGreat
namespace Go.Proofs.YtaokpncjemkhcaaGreat
open Go.RowKit
set_option linter.all false
@[reducible] def rngE (r : Int × Int) : List D := [.int .i64 r.1, .int .i64 r.2]
section
variable {α : Type} {k : Nat}
theorem zBO : ∀ {rows : List (List α)}, (∀ r ∈ rows, r.length = k) → rows.flatten.length = rows.length * k
  | [], _ => by simp
  | r :: rows, h => by
    rw [List.flatten_cons, List.length_append, zBO fun x hx => h x (List.mem_cons_of_mem _ hx), h r List.mem_cons_self, List.length_cons, Nat.add_mul, Nat.one_mul, Nat.add_comm]
theorem zEd : ∀ {rows : List (List α)} {i : Nat}, (∀ r ∈ rows, r.length = k) → rows.flatten.drop (i * k) = (rows.drop i).flatten
  | [], _, _ => by simp
  | r :: rows, 0, _ => by simp
  | r :: rows, i + 1, h => by
    have hr := h r List.mem_cons_self
    rw [List.flatten_cons, Nat.add_mul, Nat.one_mul, Nat.add_comm, ← List.drop_drop, List.drop_append_of_le_length (by omega), List.drop_of_length_le (l := r) (by omega), List.nil_append, zEd fun x hx => h x (List.mem_cons_of_mem _ hx)]
    rfl
theorem zFh : ∀ {rows : List (List α)} {i : Nat}, (∀ r ∈ rows, r.length = k) → rows.flatten.take (i * k) = (rows.take i).flatten
  | [], _, _ => by simp
  | r :: rows, 0, _ => by simp
  | r :: rows, i + 1, h => by
    have hr := h r List.mem_cons_self
    rw [List.flatten_cons, List.take_succ_cons, List.flatten_cons, Nat.add_mul, Nat.one_mul, Nat.add_comm, List.take_append, List.take_of_length_le (l := r) (by omega), hr, Nat.add_sub_cancel_left, zFh fun x hx => h x (List.mem_cons_of_mem _ hx)]
theorem fl_seg {rows : List (List α)} {i : Nat} {r : List α} (h : ∀ r ∈ rows, r.length = k) (hi : rows[i]? = some r) : (rows.flatten.drop (i * k)).take k = r := by
  obtain ⟨hlt, rfl⟩ := List.getElem?_eq_some_iff.1 hi
  have hr := h _ (List.getElem_mem hlt)
  rw [zEd h, List.drop_eq_getElem_cons hlt, List.flatten_cons, List.take_append_of_le_length (by omega), List.take_of_length_le (by omega)]
theorem zF4 {rows : List (List α)} {i j : Nat} {r : List α} (h : ∀ r ∈ rows, r.length = k) (hi : rows[i]? = some r) (hj : j < k) : rows.flatten[i * k + j]? = r[j]? := by
  rw [← fl_seg h hi, List.getElem?_take, if_pos hj, List.getElem?_drop]
theorem zGH {rows : List (List α)} {i : Nat} {x : List α} (h : ∀ r ∈ rows, r.length = k) (hi : i < rows.length) : rows.flatten.take (i * k) ++ x ++ rows.flatten.drop (i * k + k) = (rows.set i x).flatten := by
  rw [show i * k + k = (i + 1) * k by rw [Nat.add_mul, Nat.one_mul], zFh h, zEd h, List.set_eq_take_append_cons_drop, if_pos hi, List.flatten_append, List.flatten_cons, List.append_assoc]
theorem fl_set {rows : List (List α)} {i j : Nat} {r : List α} {c : α} (h : ∀ r ∈ rows, r.length = k) (hi : rows[i]? = some r) (hj : j < k) : rows.flatten.set (i * k + j) c = (rows.set i (r.set j c)).flatten := by
  obtain ⟨hlt, rfl⟩ := List.getElem?_eq_some_iff.1 hi
  have hr := h _ (List.getElem_mem hlt)
  rw [← zGH h hlt]
  apply List.ext_getElem?
  intro n
  have hfl := zBO h
  have hik : i * k + k ≤ rows.flatten.length := by
    rw [hfl]
    calc i * k + k = (i + 1) * k := by rw [Nat.add_mul, Nat.one_mul]
      _ ≤ rows.length * k := Nat.mul_le_mul_right k hlt
  have hl1 : (rows.flatten.take (i * k)).length = i * k := by rw [List.length_take]; omega
  have hl2 : (rows[i].set j c).length = k := by rw [List.length_set]; exact hr
  rw [List.getElem?_set, List.append_assoc]
  by_cases h1 : n < i * k
  · rw [if_neg (by omega), List.getElem?_append_left (by omega), List.getElem?_take, if_pos h1]
  · rw [List.getElem?_append_right (by omega), hl1]
    by_cases h2 : n < i * k + k
    · rw [List.getElem?_append_left (by omega), List.getElem?_set, hr]
      by_cases e : i * k + j = n
      · rw [if_pos e, if_pos (by omega), if_pos (by omega), if_pos (by omega)]
      · rw [if_neg e, if_neg (by omega)]
        have := zF4 h hi (show n - i * k < k by omega)
        rw [show i * k + (n - i * k) = n by omega] at this
        exact this
    · rw [List.getElem?_append_right (by omega), hl2, List.getElem?_drop, if_neg (by omega), show i * k + k + (n - i * k - k) = n by omega]
end
theorem zAQ {k : Nat} : ∀ {rows : List (List D)}, (∀ r ∈ rows, r.length = k) → chunk k rows.length rows.flatten = rows
  | [], _ => rfl
  | r :: rows, h => by
    have hr := h r List.mem_cons_self
    rw [List.length_cons, chunk, List.flatten_cons, List.take_append_of_le_length (by omega), List.take_of_length_le (by omega), List.drop_append_of_le_length (by omega), List.drop_of_length_le (l := r) (by omega), List.nil_append, zAQ fun x hx => h x (List.mem_cons_of_mem _ hx)]
@[reducible] def rngT (l : List (Int × Int)) : List TV := (l.map rngE).flatten.map .d
theorem zAT {l : List (Int × Int)} : ∀ r ∈ l.map rngE, r.length = 2 := fun r h => by
  obtain ⟨m, _, rfl⟩ := List.mem_map.1 h
  rfl
theorem zDN {l : List (Int × Int)} : (rngT l).length = l.length * 2 := by rw [List.length_map, zBO zAT, List.length_map]
theorem rng_zero (n : Nat) : (List.replicate n [TV.d (.int .i64 0), .d (.int .i64 0)]).flatten = rngT (List.replicate n (0, 0)) := by
  rw [rngT, List.map_replicate, List.map_flatten, List.map_replicate]; rfl
theorem rng_put {l : List (Int × Int)} {i : Nat} {a b : Int} (h : i < l.length) : (rngT l).take (0 + i * 2) ++ (TV.d (.agg (rngE (a, b)))).cells ++ (rngT l).drop (0 + i * 2 + 2) = rngT (l.set i (a, b)) := by
  have := congrArg (List.map TV.d) (zGH (i := i) (x := rngE (a, b)) zAT (by rw [List.length_map]; exact h))
  rw [List.map_append, List.map_append, List.map_take, List.map_drop] at this
  rw [Nat.zero_add, rngT, rngT, List.map_set]
  exact this
theorem rng_le {l : List (Int × Int)} {i : Nat} (h : i < l.length) : 0 + i * 2 + 2 ≤ (rngT l).length := by rw [zDN]; omega
theorem zF7 {l : List (Int × Int)} {i : Nat} {r : Int × Int} (h : l[i]? = some r) : (rngT l)[0 + i * 2 + 1]? = some (.d (.int .i64 r.2)) := by
  rw [Nat.zero_add, List.getElem?_map, zF4 zAT (show (l.map rngE)[i]? = some (rngE r) by rw [List.getElem?_map, h]; rfl) (by omega)]
  rfl
theorem zDe {l : List (Int × Int)} {i : Nat} {r : Int × Int} {a : Int} (h : l[i]? = some r) : (rngT l).set (0 + i * 2 + 1) (.d (.int .i64 a)) = rngT (l.set i (r.1, a)) := by
  have h1 := fl_set (j := 1) (c := D.int .i64 a) zAT (show (l.map rngE)[i]? = some (rngE r) by rw [List.getElem?_map, h]; rfl) (by omega)
  rw [Nat.zero_add]
  show ((l.map rngE).flatten.map TV.d).set (i * 2 + 1) (TV.d (.int .i64 a)) = ((l.set i (r.1, a)).map rngE).flatten.map TV.d
  rw [← List.map_set, h1, List.map_set]; rfl
end Go.Proofs.YtaokpncjemkhcaaGreat
namespace Go.Proofs.YtaokpncjemkhcaaGreat
open Go.RowKit
set_option maxRecDepth 20000
set_option linter.all false
def ini (hand : List Int) (x N : Nat) : List (Int × Int) := (List.range N).map fun i => if i < x then (hand.getD i 0, hand.getD i 0) else (0, 0)
theorem zBs {hand : List Int} {x N : Nat} : (ini hand x N).length = N := by simp [ini]
theorem ini_zero {hand : List Int} {N : Nat} : ini hand 0 N = List.replicate N (0, 0) := by
  apply List.ext_getElem?; intro i
  unfold ini; rw [List.getElem?_map, List.getElem?_replicate]
  by_cases h : i < N
  · rw [List.getElem?_range h, if_pos h]; simp
  · rw [List.getElem?_eq_none (by simp; omega), if_neg h]; rfl
theorem ini_step {hand : List Int} {x N : Nat} (h : x < N) : (ini hand x N).set x (hand.getD x 0, hand.getD x 0) = ini hand (x + 1) N := by
  apply List.ext_getElem?; intro i
  rw [List.getElem?_set, zBs]
  by_cases hi : i < N
  · unfold ini
    rw [List.getElem?_map, List.getElem?_map, List.getElem?_range hi]
    by_cases e : x = i
    · subst e; simp [h]
    · rw [if_neg e]
      by_cases e2 : i < x
      · simp [e2, show i < x + 1 by omega]
      · simp [e2, show ¬ i < x + 1 by omega]
  · rw [if_neg (by omega), List.getElem?_eq_none (by rw [zBs]; omega), List.getElem?_eq_none (by rw [zBs]; omega)]
theorem ini_end {hand : List Int} {N : Nat} : ini hand N N = stsF hand [] [] N := by
  unfold ini stsF
  apply List.map_congr_left
  intro i hi
  rw [List.mem_range] at hi
  rw [if_pos hi]; simp [leftH, netH]
theorem zEe {l : Ldg} {h d : List Int} {i : Nat} (hh : ∀ i, 0 ≤ h.getD i 0 ∧ h.getD i 0 ≤ 4) (hd : ∀ x ∈ d, 0 ≤ x ∧ x ≤ 4) (hl : l.dues.length ≤ 6) (k : Nat) : -100 ≤ leftH h (l.dues.take i) (d.take i) k ∧ leftH h (l.dues.take i) (d.take i) k ≤ 100 := by
  have h1 := zGE (qs := l.dues.take i) (d := d.take i) (h := (k : Int)) fun x hx => hd x (List.mem_of_mem_take hx)
  have h2 : (l.dues.take i).length ≤ 6 := by simp; omega
  have h3 := hh k
  unfold leftH; omega
theorem sts_all {l : Ldg} {h d : List Int} {N : Nat} (hh : ∀ i, 0 ≤ h.getD i 0 ∧ h.getD i 0 ≤ 4) (hd : ∀ x ∈ d, 0 ≤ x ∧ x ≤ 4) (hl : l.dues.length ≤ 6) (hl5 : d.length = l.dues.length) : ∀ p ∈ stsF h l.dues d N, -1000 ≤ p.2 ∧ p.2 ≤ 1000 := fun p hp => by
  unfold stsF at hp
  obtain ⟨k, _, rfl⟩ := List.mem_map.1 hp
  have := zEe (l := l) (h := h) (d := d) (i := l.dues.length) hh hd hl k
  rw [List.take_length, ← hl5, List.take_length] at this
  simp only; omega
theorem zBW (f : Nat → Int) : ∀ n, sumI ((List.range n).map f) = sumN f n
  | 0 => rfl
  | n + 1 => by rw [List.range_succ, List.map_append, kN, zBW f n]; simp [sumI, sumN]
theorem can_sums {l : Ldg} {h d : List Int} {N : Nat} (hl7 : l.lends.length = N) : decide (lackL (stsF h l.dues d N) ≤ lentL (stsF h l.dues d N) l.lends) = canP N (fun i => l.lends.getD i false) h l.dues d := by
  unfold canP
  have h1 : lackL (stsF h l.dues d N) = lackP N (leftH h l.dues d) := by
    unfold lackL stsF lackP; rw [List.map_map, ← zBW]; rfl
  have h2 : lentL (stsF h l.dues d N) l.lends = lentP N (fun i => l.lends.getD i false) (fun i => h.getD i 0) (leftH h l.dues d) := by
    unfold lentL lentP; rw [← zBW]
    congr 1
    apply List.ext_getElem?
    intro i
    rw [List.getElem?_map, List.getElem?_map]
    by_cases hi : i < N
    · obtain ⟨b, hb⟩ := z7 (show i < l.lends.length by omega)
      rw [zFf (zBF hi) hb, List.getElem?_range hi]
      simp [lentF, List.getD_eq_getElem?_getD, hb]
    · rw [List.getElem?_eq_none (by simp [kC]; omega), List.getElem?_eq_none (by simp; omega)]; rfl
  rw [h1, h2]
theorem zD1 {h : List Int} {i : Nat} (hi : i < 4) : (TV.d (handD h)).cells[0 + i * 1]? = some (.d (.int .i64 (h.getD i 0))) := by
  have : i = 0 ∨ i = 1 ∨ i = 2 ∨ i = 3 := by omega
  rcases this with rfl | rfl | rfl | rfl <;> rfl
theorem sz173 : Sz Tryz.prog 173 2 := (by kernel_rfl : (Tryz.prog.info? 173).map (·.size) = some 2)
theorem zr173 : (Tryz.prog.info? 173).map (·.zero) = some (some (.agg #[.nilFunc, .nilFunc])) := by kernel_rfl
theorem bt169 : BT Tryz.prog 169 (.agg #[(.int .i64 0), (.int .i64 0)]) (fun i => ([(0, 1), (1, 1)] : List (Nat × Nat))[i]?) := yN Tryz.underlying169 zr169 (by kernel_rfl)
theorem bt173 : BT Tryz.prog 173 (.agg #[.nilFunc, .nilFunc]) (fun i => ([(0, 1), (1, 1)] : List (Nat × Nat))[i]?) := yN Tryz.underlying173 zr173 (by kernel_rfl)
theorem can8_ok (l : Ldg) (h d : List Int) (N : Nat) (hN5 : l.reg.houses = (N : Int)) (hN6 : N ≤ 4) (hh5 : ∀ i, 0 ≤ h.getD i 0 ∧ h.getD i 0 ≤ 4) (hd5 : ∀ x ∈ d, 0 ≤ x ∧ x ≤ 4) (hl5 : d.length = l.dues.length) (hl6 : l.dues.length ≤ 6) (hq5 : ∀ q ∈ l.dues, 0 ≤ q.frm ∧ q.frm < N ∧ 0 ≤ q.to ∧ q.to < N ∧ q.frm ≠ q.to) (hl7 : l.lends.length = N) : PureAt Tryz.prog 81 [ldgD l, handD h, ints d] (.bool (canP N (fun i => l.lends.getD i false) h l.dues d)) := by
 refine PureAt.of_awp Tryz.func81 rfl (by kernel_rfl) (Nat.le_of_ble_eq_true rfl) fun Γ hn hl => ?_
 refine zC (zB ?_)
 refine stepW (zr 3 rfl rfl rfl (nb hn rfl) rfl rfl) fun b3 => ?_
 refine stepW (zr 4 rfl rfl rfl (nb hn rfl) rfl rfl) fun b4 => ?_
 refine sq rfl rfl hn rfl (zF rfl rfl) ?_
 refine zE (zA (zC (zB ?_)))
 refine sq rfl rfl hn rfl (zH rfl rfl Tryz.underlying50 rfl sz44) ?_
 refine sq rfl rfl hn rfl (zH rfl rfl Tryz.underlying44 rfl sz3) ?_
 refine sq rfl rfl hn rfl (zN rfl rfl (id := 3) rfl Tryz.underlying3 rfl rfl sees0) ?_
 refine stepW (kz (n := N) 16 rfl rfl rfl (nb hn rfl) Tryz.underlying167 (show _ = some (some (.agg #[(.int .i64 0), (.int .i64 0)]), 2, 16) from by kernel_rfl) rfl rfl rfl (by decide) rfl rfl hN5 hN5 (by omega) (by omega) (by omega)) fun b16 => ?_
 refine sq rfl rfl hn rfl (zF rfl rfl) ?_
 refine zE (zA (zC (zC (zB ?_))))
 refine sq rfl rfl hn rfl (zG rfl rfl) ?_
 refine sq rfl rfl hn rfl (q_lenV rfl rfl Tryz.underlying167) ?_
 refine sq rfl rfl hn rfl (zG rfl rfl) ?_
 refine zE (zA (zR ?_))
 refine awp_loop_on (ι := {x : Nat // x ≤ N}) (fun x => (19, true, .d (.int .i64 (x.1 : Nat))) :: anys [20, 21, 8, 22, 23, 24, 25, 26, 27, 28, 29, 30, 31, 32]) (fun x => [(16, .box b16 169 (rngT (ini h x.1 N)))]) (fun x => N - x.1) ⟨0, Nat.zero_le _⟩ ⟨.inl rfl, zK _⟩ ⟨.inl (congrArg (fun z => some (Res.box b16 169 z)) ((rng_zero _).trans (congrArg rngT ini_zero.symm))), trivial⟩ ?_
 rintro ⟨i, hi⟩
 dsimp only
 refine zC (zB ?_)
 refine sq rfl rfl hn rfl (yB rfl rfl rfl) ?_
 refine zE (zA (zC ?_))
 refine zQ rfl (fun hb0 => ?_) (fun hb0 => ?_)
 ·
  have hil : i < N := by simp at hb0; omega
  have hhi := hh5 i
  refine zT (zA (zC (zR (zC (zB ?_)))))
  refine sq rfl rfl hn rfl (zG rfl rfl) ?_
  refine sq rfl rfl hn rfl (zF rfl rfl) ?_
  refine zE (zA ?_)
  refine z6 (W := fun b => b ≠ b4) fmo ?_
  refine d1q (i := 0) rfl (by kernel_rfl) (fun _ _ _ _ h => h) rfl rfl hn rfl (zG rfl rfl) ?_
  refine d1q (i := 1) rfl (by kernel_rfl) (fun _ _ _ _ h => h) rfl rfl hn rfl (zG rfl rfl) ?_
  refine d1q (i := 2) rfl (by kernel_rfl) (fun _ _ _ _ h => h) rfl rfl hn rfl (zG rfl rfl) ?_
  refine d1q (i := 3) rfl (by kernel_rfl) (fun _ _ _ _ h => h) rfl rfl hn rfl (q_indexA (i := i) rfl rfl rfl Tryz.underlying121 sz3 rfl (by omega)) ?_
  refine d1q (i := 4) rfl (by kernel_rfl) (fun _ _ _ _ h => h) rfl rfl hn rfl (zN rfl rfl (id := 4) rfl Tryz.underlying3 rfl (zD1 (by omega)) (seesA (by simp))) ?_
  refine d1q (i := 5) rfl (by kernel_rfl) (fun _ _ _ _ h => h) rfl rfl hn rfl (zG rfl rfl) ?_
  refine d1q (i := 6) rfl (by kernel_rfl) (fun _ _ _ _ h => h) rfl rfl hn rfl (q_indexA (i := i) rfl rfl rfl Tryz.underlying121 sz3 rfl (by omega)) ?_
  refine d1q (i := 7) rfl (by kernel_rfl) (fun _ _ _ _ h => h) rfl rfl hn rfl (zN rfl rfl (id := 4) rfl Tryz.underlying3 rfl (zD1 (by omega)) (seesA (by simp))) ?_
  refine d1q (i := 8) rfl (by kernel_rfl) (fun _ _ _ _ h => h) rfl rfl hn rfl (zt rfl bt169 rfl rfl rfl rfl rfl) ?_
  refine d1q (i := 9) rfl (by kernel_rfl) (fun _ _ _ _ h => h) rfl rfl hn rfl (q_indexV (i := i) rfl rfl rfl Tryz.underlying167 sz169 rfl (by omega)) ?_
  refine zL ?_
  refine yJ (i := 16) (j := 4) rfl rfl rfl (fun hne16_4 => ?_)
  refine ze (i := 10) (by kernel_rfl) rfl (zh rfl rfl rfl rfl rfl rfl (id := 16) rfl sz169 rfl (rng_le (l := ini h i N) (i := i) (by rw [zBs]; omega)) ((rng_put (l := ini h i N) (i := i) (by rw [zBs]; omega)).trans (congrArg rngT (ini_step hil))) (fun e => hne16_4 _ rfl (congrArg some e.symm))) fun _ => ?_
  refine d2_of_d1 (zL ?_)
  refine zl (by kernel_rfl) ?_
  refine zX (zA (zB ?_))
  refine sq rfl rfl hn rfl (zq rfl rfl rfl (r := ((i + 1 : Nat) : Int)) (i64w (by omega) (by omega))) ?_
  refine sq rfl rfl hn rfl (zG rfl rfl) ?_
  refine zE ?_
  exact zU ⟨i + 1, by omega⟩ ⟨.inl rfl, zK _⟩ ⟨.inl rfl, trivial⟩ (by simp only; omega) (by repeat (first | exact kr _ | refine kc rfl ?_)) (by repeat (first | exact kr _ | refine kc rfl ?_))
 ·
  obtain rfl : N = i := by simp at hb0; omega
  rw [ini_end]
  refine zk (zI (zI (zS (zA (zC (zC (zB ?_)))))))
  refine sq rfl rfl hn rfl (zH rfl rfl Tryz.underlying50 rfl sz48) ?_
  refine sq rfl rfl hn rfl (zN rfl rfl (id := 3) rfl Tryz.underlying48 rfl rfl sees0) ?_
  refine sq rfl rfl hn rfl (zu rfl rfl Tryz.underlying48) ?_
  refine sq rfl rfl hn rfl (zG rfl rfl) ?_
  refine zE (zA (zR ?_))
  refine awp_loop_on (ι := {x : Nat // x ≤ l.dues.length}) (fun x => (36, true, .d (.int .i64 (x.1 : Nat))) :: anys [37, 38, 39, 40, 10, 9, 41, 42, 43, 44, 45, 46, 47, 48, 49, 50, 51, 52, 53, 54, 55, 56, 57, 58, 59, 60, 61, 62, 63, 64, 65, 66, 67]) (fun x => (16, .box b16 169 (rngT (stsF h (l.dues.take x.1) (d.take x.1) N))) :: gones [10]) (fun x => l.dues.length - x.1) ⟨0, Nat.zero_le _⟩ ⟨.inl rfl, zK _⟩ ⟨.inl rfl, zW _⟩ ?_
  rintro ⟨i, hi⟩
  dsimp only
  refine zC (zB ?_)
  refine sq rfl rfl hn rfl (yB rfl rfl rfl) ?_
  refine zE (zA (zC ?_))
  refine zQ rfl (fun hb1 => ?_) (fun hb1 => ?_)
  ·
   have hil : i < l.dues.length := by simp at hb1; omega
   obtain ⟨⟨qf, qt, qn⟩, hq⟩ := z7 hil
   obtain ⟨x, hx⟩ := z7 (show i < d.length by omega)
   have hqo := hq5 _ (List.mem_of_getElem? hq)
   simp only at hqo
   obtain ⟨f, rfl⟩ : ∃ f : Nat, qf = f := ⟨qf.toNat, by omega⟩
   obtain ⟨t, rfl⟩ : ∃ t : Nat, qt = t := ⟨qt.toNat, by omega⟩
   have hft : f ≠ t := by omega
   have hfN : f < N := by omega
   have htN : t < N := by omega
   have hx5 := hd5 x (List.mem_of_getElem? hx)
   have hbf := zEe (l := l) (h := h) (d := d) (i := i) hh5 hd5 hl6 f
   have hbt := zEe (l := l) (h := h) (d := d) (i := i) hh5 hd5 hl6 t
   have hgt : ((stsF h (l.dues.take i) (d.take i) N).set f (h.getD f 0, leftH h (l.dues.take i) (d.take i) f - x))[t]? = some (h.getD t 0, leftH h (l.dues.take i) (d.take i) t) := by rw [List.getElem?_set, if_neg (by omega)]; exact zBF htN
   refine zT (zA (zC (zR (zC (zB ?_)))))
   refine sq rfl rfl hn rfl (zG rfl rfl) ?_
   refine sq rfl rfl hn rfl (q_index (i := i) rfl rfl rfl Tryz.underlying48 sz88 rfl (mget hq)) ?_
   refine sq rfl rfl hn rfl (zf rfl rfl Tryz.underlying88 rfl sz88 rfl rfl seesF0) ?_
   refine stepW (zg 10 rfl rfl rfl (nb hn rfl) zr88 rfl rfl) fun b10 => ?_
   refine sq rfl rfl hn rfl (zF rfl rfl) ?_
   refine stepW (zh rfl rfl rfl rfl rfl rfl (id := 10) rfl sz88 rfl (Nat.le_of_ble_eq_true rfl) rfl trivial) fun _ => ?_
   refine zE (zA (zC ?_))
   refine yK (e := .normal) (ι := Unit) (fun u0 => anys [41, 42, 43, 44, 45, 46, 47, 48, 49, 50, 51, 52, 53]) (fun u0 => [(16, .box b16 169 (rngT ((stsF h (l.dues.take i) (d.take i) N).set f (h.getD f 0, leftH h (l.dues.take i) (d.take i) f - x))))]) (fun hJ2 => ?_) ?_
   ·
    refine z6 (W := fun b => b ≠ b10) fmo ?_
    refine d1q (i := 0) rfl (by kernel_rfl) (fun _ _ _ _ h => h) rfl rfl hn rfl (zG rfl rfl) ?_
    refine d1q (i := 1) rfl (by kernel_rfl) (fun _ _ _ _ h => h) rfl rfl hn rfl (zH rfl rfl Tryz.underlying88 rfl sz3) ?_
    refine d1q (i := 2) rfl (by kernel_rfl) (fun _ _ _ _ h => h) rfl rfl hn rfl (zN rfl rfl (id := 10) rfl Tryz.underlying3 rfl rfl (seesA (by simp))) ?_
    refine d1q (i := 3) rfl (by kernel_rfl) (fun _ _ _ _ h => h) rfl rfl hn rfl (q_indexV (i := f) rfl rfl rfl Tryz.underlying167 sz169 rfl (by omega)) ?_
    refine d1q (i := 4) rfl (by kernel_rfl) (fun _ _ _ _ h => h) rfl rfl hn rfl (zH rfl rfl Tryz.underlying169 rfl sz3) ?_
    refine d1q (i := 6) rfl (by kernel_rfl) (fun _ _ _ _ h => h) rfl rfl hn rfl (zG rfl rfl) ?_
    refine d1q (i := 7) rfl (by kernel_rfl) (fun _ _ _ _ h => h) rfl rfl hn rfl (zG rfl rfl) ?_
    refine d1q (i := 8) rfl (by kernel_rfl) (fun _ _ _ _ h => h) rfl rfl hn rfl (q_index (i := i) rfl rfl rfl Tryz.underlying22 sz3 rfl (mget hx)) ?_
    refine d1q (i := 9) rfl (by kernel_rfl) (fun _ _ _ _ h => h) rfl rfl hn rfl (zV rfl rfl Tryz.underlying3 rfl seesFA) ?_
    refine zL ?_
    refine ze (i := 5) (by kernel_rfl) rfl (zz _ [] (zJ rfl) rfl (nb hn rfl) (fun _ => trivial) (fun _ => zN rfl rfl (id := 16) rfl Tryz.underlying3 rfl (zF7 (zBF hfN)) sees0)) fun _ => ?_
    refine d2_of_d1 ?_
    refine d1q (i := 10) rfl (by kernel_rfl) (fun _ _ _ _ h => h) rfl rfl hn rfl (kG rfl rfl rfl (r := leftH h (l.dues.take i) (d.take i) f - x) (i64w (by omega) rfl)) ?_
    refine d1q (i := 11) rfl (by kernel_rfl) (fun _ _ _ _ h => h) rfl rfl hn rfl (q_indexV (i := f) rfl rfl rfl Tryz.underlying167 sz169 rfl (by omega)) ?_
    refine d1q (i := 12) rfl (by kernel_rfl) (fun _ _ _ _ h => h) rfl rfl hn rfl (zH rfl rfl Tryz.underlying169 rfl sz3) ?_
    refine zL ?_
    refine yJ (i := 16) (j := 10) rfl rfl rfl (fun hne16_10 => ?_)
    refine ze (i := 13) (by kernel_rfl) rfl (s_store1 rfl rfl rfl rfl rfl rfl (id := 16) rfl sz3 (by show 0 + f * 2 + 1 < _; rw [zDN, kC]; omega) (zDe (zBF hfN)) (fun e => hne16_10 _ rfl (congrArg some e.symm))) fun _ => ?_
    refine d2_of_d1 (zL ?_)
    refine zl (by kernel_rfl) ?_
    exact aend_join_on hJ2 () (zK _) ⟨.inl rfl, trivial⟩ (by repeat (first | exact kr _ | refine kc rfl ?_)) (by repeat (first | exact kr _ | refine kc rfl ?_))
   ·
    rintro _
    refine zA ?_
    refine z6 (W := fun b => b ≠ b10) fmo ?_
    refine d1q (i := 0) rfl (by kernel_rfl) (fun _ _ _ _ h => h) rfl rfl hn rfl (zG rfl rfl) ?_
    refine d1q (i := 1) rfl (by kernel_rfl) (fun _ _ _ _ h => h) rfl rfl hn rfl (zH rfl rfl Tryz.underlying88 rfl sz3) ?_
    refine d1q (i := 2) rfl (by kernel_rfl) (fun _ _ _ _ h => h) rfl rfl hn rfl (zN rfl rfl (id := 10) rfl Tryz.underlying3 rfl rfl (seesA (by simp))) ?_
    refine d1q (i := 3) rfl (by kernel_rfl) (fun _ _ _ _ h => h) rfl rfl hn rfl (q_indexV (i := t) rfl rfl rfl Tryz.underlying167 sz169 rfl (by omega)) ?_
    refine d1q (i := 4) rfl (by kernel_rfl) (fun _ _ _ _ h => h) rfl rfl hn rfl (zH rfl rfl Tryz.underlying169 rfl sz3) ?_
    refine d1q (i := 6) rfl (by kernel_rfl) (fun _ _ _ _ h => h) rfl rfl hn rfl (zG rfl rfl) ?_
    refine d1q (i := 7) rfl (by kernel_rfl) (fun _ _ _ _ h => h) rfl rfl hn rfl (zG rfl rfl) ?_
    refine d1q (i := 8) rfl (by kernel_rfl) (fun _ _ _ _ h => h) rfl rfl hn rfl (q_index (i := i) rfl rfl rfl Tryz.underlying22 sz3 rfl (mget hx)) ?_
    refine d1q (i := 9) rfl (by kernel_rfl) (fun _ _ _ _ h => h) rfl rfl hn rfl (zV rfl rfl Tryz.underlying3 rfl seesFA) ?_
    refine zL ?_
    refine ze (i := 5) (by kernel_rfl) rfl (zz _ [] (zJ rfl) rfl (nb hn rfl) (fun _ => trivial) (fun _ => zN rfl rfl (id := 16) rfl Tryz.underlying3 rfl (zF7 hgt) sees0)) fun _ => ?_
    refine d2_of_d1 ?_
    refine d1q (i := 10) rfl (by kernel_rfl) (fun _ _ _ _ h => h) rfl rfl hn rfl (zq rfl rfl rfl (r := leftH h (l.dues.take i) (d.take i) t + x) (i64w (by omega) rfl)) ?_
    refine d1q (i := 11) rfl (by kernel_rfl) (fun _ _ _ _ h => h) rfl rfl hn rfl (q_indexV (i := t) rfl rfl rfl Tryz.underlying167 sz169 rfl (by omega)) ?_
    refine d1q (i := 12) rfl (by kernel_rfl) (fun _ _ _ _ h => h) rfl rfl hn rfl (zH rfl rfl Tryz.underlying169 rfl sz3) ?_
    refine zL ?_
    refine yJ (i := 16) (j := 10) rfl rfl rfl (fun hne16_10 => ?_)
    refine ze (i := 13) (by kernel_rfl) rfl (s_store1 rfl rfl rfl rfl rfl rfl (id := 16) rfl sz3 (by show 0 + t * 2 + 1 < _; rw [zDN, List.length_set, kC]; omega) ((zDe hgt).trans (congrArg rngT (sts_step hq hx hl5 rfl rfl hft hfN htN))) (fun e => hne16_10 _ rfl (congrArg some e.symm))) fun _ => ?_
    refine d2_of_d1 (zL ?_)
    refine zl (by kernel_rfl) ?_
    refine zX (zA (zB ?_))
    refine sq rfl rfl hn rfl (zq rfl rfl rfl (r := ((i + 1 : Nat) : Int)) (i64w (by omega) (by omega))) ?_
    refine sq rfl rfl hn rfl (zG rfl rfl) ?_
    refine zE ?_
    exact zU ⟨i + 1, by omega⟩ ⟨.inl rfl, zK _⟩ ⟨.inl rfl, zW _⟩ (by simp only; omega) (by repeat (first | exact kr _ | refine kc rfl ?_)) (by repeat (first | exact kr _ | refine kc rfl ?_))
  ·
   obtain rfl : i = l.dues.length := by simp at hb1; omega
   rw [List.take_length, ← hl5, List.take_length]
   refine zk (zI (zI (zS (zA (zC (zB ?_))))))
   refine sq rfl rfl hn rfl (zt rfl bt173 rfl rfl rfl rfl rfl) ?_
   refine sq rfl rfl hn rfl (zt rfl bt173 rfl rfl rfl rfl rfl) ?_
   refine stepW (zg 11 rfl rfl rfl (nb hn rfl) zr173 rfl rfl) fun b11 => ?_
   refine stepW (zg 12 rfl rfl rfl (nb hn rfl) zr173 rfl rfl) fun b12 => ?_
   refine stepW (zh rfl rfl rfl rfl rfl rfl (id := 11) rfl sz173 rfl (Nat.le_of_ble_eq_true rfl) rfl trivial) fun _ => ?_
   refine stepW (zh rfl rfl rfl rfl rfl rfl (id := 12) rfl sz173 rfl (Nat.le_of_ble_eq_true rfl) rfl trivial) fun _ => ?_
   refine zE (zA (zC ?_))
   refine zw (g_freezeV (t := 7) (sz := 2) (n := N) (es := (stsF h l.dues d N).map rngE) 16 rfl rfl (kh _) (by rw [zBO zAT, List.length_map, kC]) (by have := zAQ (k := 2) (rows := (stsF h l.dues d N).map rngE) zAT; rw [List.length_map, kC] at this; exact this) (Nat.le_refl _) (by simp only [maxLen]; omega)) ?_
   have hP := sts_all (l := l) (h := h) (d := d) (N := N) hh5 hd5 hl6 hl5
   refine z6 (W := fun b => b ≠ b3 ∧ b ≠ b11 ∧ b ≠ b12) fmo ?_
   refine d1q (i := 0) rfl (by kernel_rfl) (fun _ _ _ _ h => h) rfl rfl hn rfl (za rfl rfl (id := 11) rfl Tryz.underlying173 rfl sz173 rfl rfl (seesA (by simp))) ?_
   refine d1q (i := 1) rfl (by kernel_rfl) (fun _ _ _ _ h => h) rfl rfl hn rfl (za rfl rfl (id := 3) rfl Tryz.underlying50 rfl sz50 rfl rfl (seesA (by simp))) ?_
   refine d1q (i := 2) rfl (by kernel_rfl) (fun _ _ _ _ h => h) rfl rfl hn rfl (zG rfl rfl) ?_
   refine d1q (i := 4) rfl (by kernel_rfl) (fun _ _ _ _ h => h) rfl rfl hn rfl (za rfl rfl (id := 12) rfl Tryz.underlying173 rfl sz173 rfl rfl (seesA (by simp))) ?_
   refine d1q (i := 5) rfl (by kernel_rfl) (fun _ _ _ _ h => h) rfl rfl hn rfl (za rfl rfl (id := 3) rfl Tryz.underlying50 rfl sz50 rfl rfl (seesA (by simp))) ?_
   refine d1q (i := 6) rfl (by kernel_rfl) (fun _ _ _ _ h => h) rfl rfl hn rfl (zG rfl rfl) ?_
   refine zL ?_
   refine ze (i := 3) (by kernel_rfl) rfl (s_call [] (fun _ => sumLack_ok l (stsF h l.dues d N) hP (by rw [kC]; exact hN6)) rfl (zJ rfl) rfl (nb hn rfl) (fun _ => trivial) rfl rfl (.refl _)) fun _ => ?_
   refine d2_of_d1 (zL ?_)
   refine ze (i := 7) (by kernel_rfl) rfl (s_call [] (fun _ => sumLend_ok l (stsF h l.dues d N) hP (by rw [kC]; exact hN6) (by rw [kC]; exact hl7)) rfl (zJ rfl) rfl (nb hn rfl) (fun _ => trivial) rfl rfl (.refl _)) fun _ => ?_
   refine d2_of_d1 ?_
   refine d1q (i := 8) rfl (by kernel_rfl) (fun _ _ _ _ h => h) rfl rfl hn rfl (zAS rfl rfl rfl) ?_
   refine d1q (i := 9) rfl (by kernel_rfl) (fun _ _ _ _ h => h) rfl rfl hn rfl (zF rfl rfl) ?_
   refine zL ?_
   refine zl (by kernel_rfl) ?_
   refine zA (zP ?_)
   refine zj (zm (.inl rfl) hl rfl (.tmp rfl)) ?_
   rw [can_sums hl7]
end Go.Proofs.YtaokpncjemkhcaaGreat
namespace Go.Proofs.YtaokpncjemkhcaaGreat
open Go.RowKit
set_option linter.all false
theorem TReps.split {F : Nat → Nat → Prop} {w : World} : ∀ {ds es : List TV} {vs : List Value}, TReps F w (ds ++ es) vs → ∃ xs ys, vs = xs ++ ys ∧ TReps F w ds xs ∧ TReps F w es ys
  | [], _, vs, h => ⟨[], vs, rfl, rfl, h⟩
  | _ :: ds, _, _, ⟨v, vs', e, h1, h2⟩ => by
    subst e
    obtain ⟨xs, ys, rfl, k1, k2⟩ := TReps.split h2
    exact ⟨v :: xs, ys, rfl, ⟨v, xs, rfl, h1, k1⟩, k2⟩
theorem zAg {w w' : World} {b o : Nat} (h : w'.heap[b]? = w.heap[b]?) : w'.cell? ⟨b, o, none⟩ = w.cell? ⟨b, o, none⟩ := by
  simp only [World.cell?, h]
theorem PureAt.vec {P : Program} {f : FuncId} {ds1 ds2 : List D} {r : D} {u : Value} {sz : Nat} {es : List (List D)} {b n cap id ty : Nat} {cs rest : List TV} (h : PureAt P f (ds1 ++ .slice sz es :: ds2) r) (hr : r.sim = some u) (hn : n = es.length)
    (hc : cs = es.flatten.map .d ++ rest) (hsz : ∀ c ∈ es, c.length = sz) (hcap : n ≤ cap) (hcm : cap ≤ maxLen) :
    EffAt P f (ds1.map .d ++ .val (.slice (some ⟨b, 0, none⟩) n cap) :: ds2.map .d) [(id, .box b ty cs)] (X := Unit) (fun _ => .d r) (fun _ => [(id, .box b ty cs)]) := by
  subst hn hc
  refine ⟨h.1, fun w F vs hv hh => ?_⟩
  obtain ⟨hown, hF, vs0, hheap, hvs, hone⟩ := hh.res id _ (zi _ _ _)
  obtain ⟨xs, ys, rfl, hx, hy⟩ := hv.split
  obtain ⟨v1, zs, rfl, hv1, hz⟩ := hy
  obtain ⟨ps, qs, e0, hps, hqs⟩ := hvs.split
  subst e0
  let F' : Nat → Nat → Prop := fun c o => F c o ∨ (c = b ∧ o < ps.length)
  have hcell : ∀ j v, ps[j]? = some v → w.cell? ⟨b, j, none⟩ = some v := fun j v hj => (yl hheap).trans (by rw [List.getElem?_append_left (List.getElem?_eq_some_iff.1 hj).1]; exact hj)
  have hext : Ext F F' w w := fun c o hf => ⟨.inl hf, rfl⟩
  have hcells : RepCells F' w es.flatten b 0 := RepCells.of_vals (hps.of_d.ext' hext) (fun u hu => hone u (List.mem_append_left _ hu)) fun j v hj => by
    rw [Nat.zero_add]
    exact ⟨hcell j v hj, .inr ⟨rfl, (List.getElem?_eq_some_iff.1 hj).1⟩⟩
  have hrow : Rep F' w (.slice sz es) v1 := by
    simp only [TRep] at hv1
    exact ⟨_, cap, hv1, hcap, hcm, .inr ⟨b, 0, rfl, RepRows.flat.2 ⟨hsz, hcells⟩⟩⟩
  have hargs : RepVals F' w (ds1 ++ .slice sz es :: ds2) (xs ++ v1 :: zs) := (hx.of_d.ext' hext).append ⟨v1, zs, rfl, hrow, hz.of_d.ext' hext⟩
  have hF' : ∀ c o, F' c o → ∃ v, w.cell? ⟨c, o, none⟩ = some v := fun c o hf => by
    rcases hf with hf | ⟨rfl, hlt⟩
    · exact hh.fcell c o hf
    · exact ⟨_, hcell o _ (List.getElem?_eq_getElem hlt)⟩
  have hglob : GOK w (fun _ => False) := fun g hg => by
    obtain ⟨h1, h2, h3⟩ := hh.glob g hg
    exact ⟨h1, fun k => k, h3⟩
  refine (h.2 w F' _ hF' hglob hargs).mono fun e w' ⟨v, F2, e1, hb, hrep, _⟩ => ⟨(), v, F, e1, ?_, ?_⟩
  · exact (zAc hr).2 ((zAc hr).1 hrep)
  · have hlt : ∀ c o, F c o → c < w.heap.size := fun c o hf => by
      obtain ⟨x, hx⟩ := hh.fcell c o hf
      exact World.block_lt_of_cell? w ⟨c, o, none⟩ hx
    have hsame : Ext F F w w' := fun c o hf => ⟨hf, zAg (hb.block c (hlt c o hf))⟩
    exact {
      os := hb.os
      tape := hb.tape
      output := hb.output
      hsize := hb.size
      old := fun k hk _ => hb.block k hk
      fcell := fun c o hf => by
        obtain ⟨x, hx⟩ := hh.fcell c o hf
        exact ⟨x, ((hsame c o hf).2).trans hx⟩
      keep := fun c o hf => (hsame c o hf).2
      f0 := fun _ _ hf => hf
      fnew := fun _ _ hf _ _ => hf
      glob := hh.glob
      res := fun i r1 hi => by
        by_cases e2 : id = i
        · subst e2
          rw [zi] at hi
          cases hi
          refine ⟨hown, hF, ps ++ qs, (hb.block b (yX hheap)).trans hheap, (hps.append hqs).ext' hsame, hone⟩
        · rw [zv _ _ e2] at hi; cases hi
      sep := hh.sep }
/-- An operation whose guard is known to be true. -/
theorem s_guardT {Γ : Cx} {P : Program} {σ : St} {ops : Array Oper} {o : Oper} {W : Nat → Prop} {X : Type} {S' : X → St} {x : Bool} (hg : GuardOK Γ ops σ o x) (hx : x = true) (h : StepW Γ P ops σ { o with guard := none } W S') : StepW Γ P ops σ o W S' := fun a w F hs K Q hK => by
  rw [if_pos ((hg a w F hs).trans hx)]
  have := h a w F hs K Q hK
  rw [if_pos (yD rfl a)] at this
  exact this
end Go.Proofs.YtaokpncjemkhcaaGreat
namespace Go.Proofs.YtaokpncjemkhcaaGreat
set_option linter.all false
theorem zEL {α : Type} {f : Nat → Option α} {M n : Nat} {d : α} (h : n < M) (hn : ∀ k, k < n → f k = none) (hd : f n = some d) : (List.range M).findSome? f = some d := by
  obtain ⟨m, rfl⟩ := Nat.exists_eq_add_of_le (show n + 1 ≤ M by omega)
  rw [List.range_add, List.findSome?_append, List.range_succ, List.findSome?_append]
  have : (List.range n).findSome? f = none := by
    rw [List.findSome?_eq_none_iff]; intro x hx; exact hn x (List.mem_range.1 hx)
  rw [this]; simp [hd]
theorem zCm {α : Type} {f : Nat → Option α} {M : Nat} (hn : ∀ k, k < M → f k = none) : (List.range M).findSome? f = none := by
  rw [List.findSome?_eq_none_iff]; intro x hx; exact hn x (List.mem_range.1 hx)
theorem zEt {qs : List Due8} : (fullD qs).length = qs.length := by simp [fullD]
theorem fullD_bd {qs : List Due8} (h : ∀ q ∈ qs, 0 ≤ q.num ∧ q.num ≤ 4) : ∀ x ∈ fullD qs, 0 ≤ x ∧ x ≤ 4 := fun x hx => by
  unfold fullD at hx
  obtain ⟨q, hq, rfl⟩ := List.mem_map.1 hx
  exact h q hq
end Go.Proofs.YtaokpncjemkhcaaGreat
namespace Go.Proofs.YtaokpncjemkhcaaGreat
open Go.RowKit
set_option maxRecDepth 20000
set_option linter.all false
@[reducible] def intsT (l : List Int) : List TV := l.map fun n => TV.d (.int .i64 n)
theorem zBV (l : List Int) : intsT l = (l.map intE).flatten.map .d ++ [] := by
  rw [List.append_nil]
  induction l with
  | nil => rfl
  | cons x l ih => simp only [intsT, List.map_cons, List.flatten_cons, List.map_append] at ih ⊢; rw [ih]; rfl
theorem zAR {l : List Int} : ∀ c ∈ l.map intE, c.length = 1 := fun c hc => by obtain ⟨x, _, rfl⟩ := List.mem_map.1 hc; rfl
theorem zCA {l : List Int} {i : Nat} {x : Int} : (intsT l).set (0 + i * 1) (.d (.int .i64 x)) = intsT (l.set i x) := by
  unfold intsT; rw [List.map_set, Nat.zero_add, Nat.mul_one]
theorem zCF {l : List Int} : (intsT l).length = l.length := by simp
/-- A ledger at work. -/
@[reducible] def workC8 (l : Ldg) (b : Nat) : List D := ldgC l ++ [.raw (.map (some b))]
def canL (l : Ldg) (N : Nat) (h d : List Int) : Bool := canP N (fun i => l.lends.getD i false) h l.dues d
def srchL (l : Ldg) (N : Nat) (h : List Int) (w : Int) (i : Nat) (pre : List Int) (b : Int) : Option (List Int) := searchD (canL l N h) w i (l.dues.drop i) pre b
def mostI (q : Due8) (w b : Int) (i : Nat) : Int := if (i : Int) = w then 0 else min b q.num
theorem srch_step {l : Ldg} {N : Nat} {h : List Int} {w : Int} {i : Nat} {pre : List Int} {b : Int} {q : Due8} (hq : l.dues[i]? = some q) :
    srchL l N h w i pre b = (List.range ((mostI q w b i).toNat + 1)).findSome? fun (n : Nat) => srchL l N h w (i + 1) (pre ++ [q.num - (n : Int)]) (b - (n : Int)) := by
  have h1 := (List.getElem?_eq_some_iff.1 hq)
  obtain ⟨h1, rfl⟩ := h1
  unfold srchL
  rw [List.drop_eq_getElem_cons h1]
  rfl
theorem srch_end {l : Ldg} {N : Nat} {h : List Int} {w : Int} {pre : List Int} {b : Int} : srchL l N h w l.dues.length pre b = if (b == 0 && canL l N h pre) = true then some pre else none := by
  unfold srchL; rw [List.drop_length]; rfl
/-- What is so of a hand and a ledger. -/
structure Hok (l : Ldg) (N : Nat) (h : List Int) : Prop where
  hN5 : l.reg.houses = (N : Int)
  hN6 : N ≤ 4
  hh5 : ∀ i, 0 ≤ h.getD i 0 ∧ h.getD i 0 ≤ 4
  hl6 : l.dues.length ≤ 6
  hq5 : ∀ q ∈ l.dues, 0 ≤ q.frm ∧ q.frm < N ∧ 0 ≤ q.to ∧ q.to < N ∧ q.frm ≠ q.to
  hq6 : ∀ q ∈ l.dues, 1 ≤ q.num ∧ q.num ≤ 4
  hl7 : l.lends.length = N
theorem zGC {l : Ldg} {N : Nat} {h : List Int} (H : Hok l N h) (d : List Int) (hd : ∀ x ∈ d, 0 ≤ x ∧ x ≤ 4) (hl : d.length = l.dues.length) : PureAt Tryz.prog 81 [ldgD l, handD h, ints d] (.bool (canL l N h d)) :=
  can8_ok l h d N H.hN5 H.hN6 H.hh5 hd hl H.hl6 H.hq5 H.hl7
/-- What a search leaves. -/
def DPost (l : Ldg) (N : Nat) (h : List Int) (w : Int) (i : Nat) (b : Int) (out : List Int) (x : Bool × List Int) : Prop :=
  x.2.length = l.dues.length ∧ x.2.take i = out.take i ∧ (∀ y ∈ x.2, 0 ≤ y ∧ y ≤ 4) ∧ ((x.1 = true ∧ srchL l N h w i (out.take i) b = some x.2) ∨ (x.1 = false ∧ srchL l N h w i (out.take i) b = none))
def DX (l : Ldg) (N : Nat) (h : List Int) (w : Int) (i : Nat) (b : Int) (out : List Int) : Type := {x : Bool × List Int // DPost l N h w i b out x}
@[reducible] def delCa (l : Ldg) (h : List Int) (w : Int) (b bo b11 : Nat) : List TV := [.d (.ptr [.ptr (workC8 l b)]), .d (.ptr (handE h)), .val (.pointer (some ⟨bo, 0, none⟩)), .d (.ptr [.int .i64 w]), .val (.pointer (some ⟨b11, 0, none⟩))]
@[reducible] def delRs (l : Ldg) (h : List Int) (w : Int) (b b10 bo b11 : Nat) (out : List Int) : List (Nat × Res) :=
  [(1011, .box b10 22 [.val (.slice (some ⟨bo, 0, none⟩) l.dues.length l.dues.length)]), (1012, .box bo 3 (intsT out)), (1013, .box b11 196 [.fn (.func 133) [] (delCa l h w b b10 b11)])]
def DelsOK (l : Ldg) (N : Nat) (h : List Int) (w : Int) (b b10 bo b11 k : Nat) : Prop := ∀ (i : Nat) (bt : Int) (out : List Int), i ≤ l.dues.length → l.dues.length - i < k → 0 ≤ bt → bt ≤ 100000 → out.length = l.dues.length → (∀ y ∈ out, 0 ≤ y ∧ y ≤ 4) →
  EffAt Tryz.prog 133 (.d (.int .i64 (i : Nat)) :: .d (.int .i64 bt) :: delCa l h w b b10 b11) (delRs l h w b b10 bo b11 out) (X := DX l N h w i bt out) (fun x => .d (.bool x.1.1)) (fun x => delRs l h w b b10 bo b11 x.1.2)
theorem zAn {l : List Int} {i : Nat} {x : Int} : (l.set i x).take i = l.take i := by
  rw [List.take_set_of_le (Nat.le_refl _)]
theorem take_set_succ {l : List Int} {i : Nat} {x : Int} (h : i < l.length) : (l.set i x).take (i + 1) = l.take i ++ [x] := by
  rw [List.take_add_one, zAn, List.getElem?_set, if_pos rfl, if_pos h]; rfl
theorem zB4 {a b : List Int} {i : Nat} (h : a.take (i + 1) = b.take (i + 1)) : a.take i = b.take i := by
  have := congrArg (List.take i) h
  rwa [List.take_take, List.take_take, Nat.min_eq_left (by omega)] at this
theorem mem_set_bd {l : List Int} {i : Nat} {x : Int} (h : ∀ y ∈ l, 0 ≤ y ∧ y ≤ 4) (hx : 0 ≤ x ∧ x ≤ 4) : ∀ y ∈ l.set i x, 0 ≤ y ∧ y ≤ 4 := fun y hy => by
  rcases List.mem_or_eq_of_mem_set hy with hy | rfl
  · exact h y hy
  · exact hx
theorem sz121 : Sz Tryz.prog 121 4 := (by kernel_rfl : (Tryz.prog.info? 121).map (·.size) = some 4)
theorem sz196 : Sz Tryz.prog 196 1 := (by kernel_rfl : (Tryz.prog.info? 196).map (·.size) = some 1)
theorem zr196 : (Tryz.prog.info? 196).map (·.zero) = some (some .nilFunc) := by kernel_rfl
theorem deliver_step (l : Ldg) (N : Nat) (h : List Int) (H : Hok l N h) (w : Int) (b b10 bo b11 k : Nat) (ih : DelsOK l N h w b b10 bo b11 k) (i : Nat) (bt : Int) (out : List Int) (hi5 : i ≤ l.dues.length) (hk5 : l.dues.length - i < k + 1) (hb50 : 0 ≤ bt) (hb51 : bt ≤ 100000) (ho5 : out.length = l.dues.length) (ho6 : ∀ y ∈ out, 0 ≤ y ∧ y ≤ 4) : EffAt Tryz.prog 133 (.d (.int .i64 (i : Nat)) :: .d (.int .i64 bt) :: delCa l h w b b10 b11) (delRs l h w b b10 bo b11 out) (X := DX l N h w i bt out) (fun x => .d (.bool x.1.1)) (fun x => delRs l h w b b10 bo b11 x.1.2) := by
 have hl6 := H.hl6
 refine EffAt.of_awp Tryz.func133 rfl (by kernel_rfl) rfl fun Γ hn => ?_
 refine zC (zB ?_)
 refine sq rfl rfl hn rfl (zF rfl rfl) ?_
 refine zE (zA (zC (zC (zB ?_))))
 refine sq rfl rfl hn rfl (zG rfl rfl) ?_
 refine sq rfl rfl hn rfl (zV rfl rfl Tryz.underlying119 rfl seesF0) ?_
 refine sq rfl rfl hn rfl (yF rfl rfl) ?_
 refine sq rfl rfl hn rfl (zO rfl rfl Tryz.underlying156 rfl sz50 rfl) ?_
 refine sq rfl rfl hn rfl (zO rfl rfl Tryz.underlying50 rfl sz48 rfl) ?_
 refine sq rfl rfl hn rfl (zV rfl rfl Tryz.underlying48 rfl seesF0) ?_
 refine sq rfl rfl hn rfl (zu rfl rfl Tryz.underlying48) ?_
 refine sq rfl rfl hn rfl (yM rfl rfl rfl) ?_
 refine zE (zA ?_)
 refine zQ rfl (fun hb0 => ?_) (fun hb0 => ?_)
 ·
  obtain rfl : i = l.dues.length := by simp only [List.length_map, beq_iff_eq] at hb0; omega
  have htk : out.take l.dues.length = out := by rw [← ho5, List.take_length]
  refine zC ?_
  refine z6 (W := fun b => b ≠ b10) fmo ?_
  refine d1q (i := 0) rfl (by kernel_rfl) (fun _ _ _ _ h => h) rfl rfl hn rfl (zG rfl rfl) ?_
  refine d1q (i := 1) rfl (by kernel_rfl) (fun _ _ _ _ h => h) rfl rfl hn rfl (yM rfl rfl rfl) ?_
  refine d1q (i := 2) rfl (by kernel_rfl) (fun _ _ _ _ h => h) rfl rfl hn rfl (zG rfl rfl) ?_
  refine d1g (i := 3) [] rfl (by kernel_rfl) (fun _ _ _ _ h => h) (zD rfl rfl rfl) rfl hn rfl (fun hc => trivial) (fun hc => zV rfl rfl Tryz.underlying119 rfl seesFA) ?_
  refine d1g (i := 4) [(23, _)] rfl (by kernel_rfl) (fun _ _ _ _ h => h) (zD rfl rfl rfl) rfl hn rfl (fun hc => ⟨⟨_, rfl, hc⟩, trivial⟩) (fun hc => yF rfl rfl) ?_
  refine d1g (i := 5) [(24, _)] rfl (by kernel_rfl) (fun _ _ _ _ h => h) (zD rfl rfl rfl) rfl hn rfl (fun hc => ⟨⟨_, rfl, hc⟩, trivial⟩) (fun hc => zO rfl rfl Tryz.underlying156 rfl sz50 rfl) ?_
  refine d1g (i := 6) [(25, _)] rfl (by kernel_rfl) (fun _ _ _ _ h => h) (zD rfl rfl rfl) rfl hn rfl (fun hc => ⟨⟨_, rfl, hc⟩, trivial⟩) (fun hc => zf rfl rfl Tryz.underlying50 rfl sz50 rfl rfl seesFA) ?_
  refine d1g (i := 7) [] rfl (by kernel_rfl) (fun _ _ _ _ h => h) (zD rfl rfl rfl) rfl hn rfl (fun hc => trivial) (fun hc => zf rfl rfl Tryz.underlying121 rfl sz121 rfl rfl seesFA) ?_
  refine d1g (i := 8) [] rfl (by kernel_rfl) (fun _ _ _ _ h => h) (zD rfl rfl rfl) rfl hn rfl (fun hc => trivial) (fun hc => zN rfl rfl (id := 1011) rfl Tryz.underlying22 rfl rfl (seesA (by simp))) ?_
  refine zL ?_
  refine yJ (i := 1012) (j := 1011) rfl rfl rfl (fun hne => ?_)
  refine ze (i := 9) (by kernel_rfl) rfl (s_callEg [(26, _), (27, _), (28, _)] () (fun hc => PureAt.vec (id := 1012) (ty := 3) (ds1 := [ldgD l, handD h]) (ds2 := []) (rest := []) (zGC H out ho6 ho5) rfl (by rw [List.length_map]; exact ho5.symm) (zBV out) zAR (Nat.le_refl _) (by simp only [maxLen]; omega)) rfl (zD rfl rfl rfl) rfl (nb hn rfl) (fun hc => ⟨⟨_, rfl, hc⟩, ⟨_, rfl, hc⟩, ⟨_, rfl, hc⟩, trivial⟩) (.d rfl) rfl (.refl _) ⟨rfl, trivial⟩ (fun _ => rfl) (fun b hb e => hne _ rfl (congrArg some ((yQ.1 hb).trans e).symm)) ⟨rfl, trivial⟩) fun ⟨_, _⟩ => ?_
  refine d2_of_d1 ?_
  refine d1q (i := 10) rfl (by kernel_rfl) (fun _ _ _ _ h => h) rfl rfl hn rfl (yC rfl rfl rfl (by intro hB; first | (rw [hB]; rfl) | (rw [hB, hc]; rfl) | simp_all)) ?_
  refine d1q (i := 11) rfl (by kernel_rfl) (fun _ _ _ _ h => h) rfl rfl hn rfl (zF rfl rfl) ?_
  refine zL ?_
  refine zl (by kernel_rfl) ?_
  refine zA (zP (zM ?_))
  exact ret_E (.inl rfl) ⟨((bt == 0) && canL l N h out, out), ho5, rfl, ho6, by rw [srch_end, htk]; cases hcc : ((bt == 0) && canL l N h out) with | true => exact .inl ⟨rfl, rfl⟩ | false => exact .inr ⟨rfl, rfl⟩⟩ (yG rfl (.tmp rfl)) ⟨rfl, rfl, rfl, trivial⟩
 ·
  have hil : i < l.dues.length := by simp only [List.length_map, beq_eq_false_iff_ne, ne_eq] at hb0; omega
  obtain ⟨q, hq⟩ := z7 hil
  have hqn := H.hq6 q (List.mem_of_getElem? hq)
  refine zT (zA (zC (zB ?_)))
  refine sq rfl rfl hn rfl (zG rfl rfl) ?_
  refine sq rfl rfl hn rfl (zV rfl rfl Tryz.underlying119 rfl seesF0) ?_
  refine sq rfl rfl hn rfl (yF rfl rfl) ?_
  refine sq rfl rfl hn rfl (zO rfl rfl Tryz.underlying156 rfl sz50 rfl) ?_
  refine sq rfl rfl hn rfl (zO rfl rfl Tryz.underlying50 rfl sz48 rfl) ?_
  refine sq rfl rfl hn rfl (zV rfl rfl Tryz.underlying48 rfl seesF0) ?_
  refine sq rfl rfl hn rfl (zG rfl rfl) ?_
  refine sq rfl rfl hn rfl (q_index (i := i) rfl rfl rfl Tryz.underlying48 sz88 rfl (mget hq)) ?_
  refine sq rfl rfl hn rfl (zO rfl rfl Tryz.underlying88 rfl sz3 rfl) ?_
  refine sq rfl rfl hn rfl (zV rfl rfl Tryz.underlying3 rfl seesF0) ?_
  refine stepW (zb rfl rfl rfl (nb hn rfl) Tryz.underlying22 sz3 zr3 rfl rfl rfl (show _ = [.d (.int .i64 0), .d (.int .i64 0)] from by kernel_rfl) (by kernel_rfl) rfl rfl rfl rfl rfl) fun _ => ?_
  refine stepW (s_call [] (fun _ => y8 bt [q.num]) rfl (zJ rfl) rfl (nb hn rfl) (fun _ => trivial) rfl rfl (.refl _)) fun _ => ?_
  refine sq rfl rfl hn rfl (zF rfl rfl) ?_
  refine zE (zA (zC (zC (zB ?_))))
  refine sq rfl rfl hn rfl (zG rfl rfl) ?_
  refine sq rfl rfl hn rfl (zV rfl rfl Tryz.underlying3 rfl seesF0) ?_
  refine sq rfl rfl hn rfl (yM rfl rfl rfl) ?_
  refine zE (zA ?_)
  refine yK (e := .normal) (ι := Unit) (fun u0 => [(10, true, .d (.int .i64 (mostI q w bt i)))]) (fun u0 => []) (fun hJ1 => ?_) ?_
  ·
   refine zQ rfl (fun hb1 => ?_) (fun hb1 => ?_)
   ·
    have hm7 : (0 : Int) = mostI q w bt i := by unfold mostI; rw [if_pos (by simpa using hb1)]
    refine zB ?_
    refine sq rfl rfl hn rfl (zF rfl rfl) ?_
    refine zE ?_
    exact aend_join_on hJ1 () ⟨.inl (congrArg (fun n : Int => some (true, TV.d (.int .i64 n))) hm7), trivial⟩ trivial (by repeat (first | exact kr _ | refine kc rfl ?_)) (by repeat (first | exact kr _ | refine kc rfl ?_))
   ·
    have hm7 : minL bt [q.num] = mostI q w bt i := by unfold mostI; rw [if_neg (by simpa using hb1)]; simp [minL]
    refine zT ?_
    exact aend_join_on hJ1 () ⟨.inl (congrArg (fun n : Int => some (true, TV.d (.int .i64 n))) hm7), trivial⟩ trivial (by repeat (first | exact kr _ | refine kc rfl ?_)) (by repeat (first | exact kr _ | refine kc rfl ?_))
  ·
   rintro _
   refine zA (zC (zC ?_))
   have hmost : 0 ≤ mostI q w bt i ∧ mostI q w bt i ≤ bt ∧ mostI q w bt i ≤ q.num := by unfold mostI; split <;> omega
   obtain ⟨M, hM⟩ : ∃ M : Nat, mostI q w bt i = (M : Int) := ⟨(mostI q w bt i).toNat, by omega⟩
   have hst := srch_step (N := N) (h := h) (w := w) (pre := out.take i) (b := bt) hq
   rw [hM, Int.toNat_natCast] at hst
   refine zB ?_
   refine sq rfl rfl hn rfl (zG rfl rfl) ?_
   refine sq rfl rfl hn rfl (zq rfl rfl rfl (r := ((M + 1 : Nat) : Int)) (by rw [hM]; exact i64w (by omega) (by omega))) ?_
   refine sq rfl rfl hn rfl (zG rfl rfl) ?_
   refine zE (zA (zR ?_))
   refine awp_loop_on (ι := {x : Nat × List Int // x.1 ≤ M + 1 ∧ x.2.length = l.dues.length ∧ x.2.take i = out.take i ∧ (∀ y ∈ x.2, 0 ≤ y ∧ y ≤ 4) ∧ ∀ n, n < x.1 → srchL l N h w (i + 1) (out.take i ++ [q.num - ((n : Nat) : Int)]) (bt - ((n : Nat) : Int)) = none}) (fun x => (48, true, .d (.int .i64 (x.1.1 : Nat))) :: anys [49, 50, 11, 51, 52, 53, 54, 55, 56, 57, 58, 59, 60, 61, 62, 63, 64, 65, 66, 67, 68, 69, 70, 71, 72]) (fun x => [(1011, .box b10 22 [.val (.slice (some ⟨bo, 0, none⟩) l.dues.length l.dues.length)]), (1012, .box bo 3 (intsT x.1.2)), (1013, .box b11 196 [.fn (.func 133) [] (delCa l h w b b10 b11)])]) (fun x => M + 1 - x.1.1) ⟨(0, out), by omega, ho5, rfl, ho6, fun n hn => by omega⟩ ⟨.inl rfl, zK _⟩ ⟨.inl rfl, .inl rfl, .inl rfl, trivial⟩ ?_
   rintro ⟨⟨n, o1⟩, hnM0, h1, h2, h3, h4⟩
   dsimp only
   dsimp only at hnM0 h1 h2 h3 h4
   refine zC (zB ?_)
   refine sq rfl rfl hn rfl (yB rfl rfl rfl) ?_
   refine zE (zA (zC ?_))
   refine zQ rfl (fun hb2 => ?_) (fun hb2 => ?_)
   ·
    have hnM : n ≤ M := by simp only [decide_eq_true_eq] at hb2; omega
    refine zT (zA (zC (zR (zC (zB ?_)))))
    refine sq rfl rfl hn rfl (zG rfl rfl) ?_
    refine sq rfl rfl hn rfl (zF rfl rfl) ?_
    refine zE (zA (zC ?_))
    refine z6 (W := fun b => b ≠ b10) fmo ?_
    refine d1q (i := 0) rfl (by kernel_rfl) (fun _ _ _ _ h => h) rfl rfl hn rfl (zN rfl rfl (id := 1011) rfl Tryz.underlying22 rfl rfl (seesA (by simp))) ?_
    refine d1q (i := 1) rfl (by kernel_rfl) (fun _ _ _ _ h => h) rfl rfl hn rfl (zG rfl rfl) ?_
    refine d1q (i := 2) rfl (by kernel_rfl) (fun _ _ _ _ h => h) rfl rfl hn rfl (zV rfl rfl Tryz.underlying119 rfl seesFA) ?_
    refine d1q (i := 3) rfl (by kernel_rfl) (fun _ _ _ _ h => h) rfl rfl hn rfl (yF rfl rfl) ?_
    refine d1q (i := 4) rfl (by kernel_rfl) (fun _ _ _ _ h => h) rfl rfl hn rfl (zO rfl rfl Tryz.underlying156 rfl sz50 rfl) ?_
    refine d1q (i := 5) rfl (by kernel_rfl) (fun _ _ _ _ h => h) rfl rfl hn rfl (zO rfl rfl Tryz.underlying50 rfl sz48 rfl) ?_
    refine d1q (i := 6) rfl (by kernel_rfl) (fun _ _ _ _ h => h) rfl rfl hn rfl (zV rfl rfl Tryz.underlying48 rfl seesFA) ?_
    refine d1q (i := 7) rfl (by kernel_rfl) (fun _ _ _ _ h => h) rfl rfl hn rfl (zG rfl rfl) ?_
    refine d1q (i := 8) rfl (by kernel_rfl) (fun _ _ _ _ h => h) rfl rfl hn rfl (q_index (i := i) rfl rfl rfl Tryz.underlying48 sz88 rfl (mget hq)) ?_
    refine d1q (i := 9) rfl (by kernel_rfl) (fun _ _ _ _ h => h) rfl rfl hn rfl (zO rfl rfl Tryz.underlying88 rfl sz3 rfl) ?_
    refine d1q (i := 10) rfl (by kernel_rfl) (fun _ _ _ _ h => h) rfl rfl hn rfl (zV rfl rfl Tryz.underlying3 rfl seesFA) ?_
    refine d1q (i := 11) rfl (by kernel_rfl) (fun _ _ _ _ h => h) rfl rfl hn rfl (zG rfl rfl) ?_
    refine d1q (i := 12) rfl (by kernel_rfl) (fun _ _ _ _ h => h) rfl rfl hn rfl (kG rfl rfl rfl (i64w (by omega) rfl)) ?_
    refine d1q (i := 13) rfl (by kernel_rfl) (fun _ _ _ _ h => h) rfl rfl hn rfl (q_indexV (i := i) rfl rfl rfl Tryz.underlying22 sz3 rfl (by omega)) ?_
    refine zL ?_
    refine yJ (i := 1012) (j := 1011) rfl rfl rfl (fun hne1012_1011 => ?_)
    refine ze (i := 14) (by kernel_rfl) rfl (s_store1 rfl rfl rfl rfl rfl rfl (id := 1012) rfl sz3 (by show 0 + i * 1 < _; rw [zCF]; omega) zCA (fun e => hne1012_1011 _ rfl (congrArg some e.symm))) fun _ => ?_
    refine d2_of_d1 (zL ?_)
    refine zl (by kernel_rfl) ?_
    refine zA (zC (zB ?_))
    refine sq rfl rfl hn rfl (zN rfl rfl (id := 1013) rfl Tryz.underlying196 rfl rfl sees0) ?_
    refine sq rfl rfl hn rfl (zG rfl rfl) ?_
    refine sq rfl rfl hn rfl (zq rfl rfl rfl (r := ((i + 1 : Nat) : Int)) (i64w (by omega) (by omega))) ?_
    refine sq rfl rfl hn rfl (zG rfl rfl) ?_
    refine sq rfl rfl hn rfl (zG rfl rfl) ?_
    refine sq rfl rfl hn rfl (kG rfl rfl rfl (i64w (by omega) rfl)) ?_
    refine stepW (s_callE (ih (i + 1) (bt - ((n : Nat) : Int)) (o1.set i (q.num - ((n : Nat) : Int))) (by omega) (by omega) (by omega) (by omega) (by rw [List.length_set]; exact h1) (mem_set_bd h3 (by omega))) rfl rfl rfl (nb hn rfl) (.t rfl) rfl (.refl _) ⟨rfl, rfl, rfl, trivial⟩ (fun _ => rfl) (fun _ _ => trivial)) fun ⟨⟨is2, o2⟩, g1, g2, g3, g4⟩ => ?_
    dsimp only at g1 g2 g3 g4
    rw [take_set_succ (by omega), h2] at g4
    refine zE (zA ?_)
    refine zQ rfl (fun hb3 => ?_) (fun hb3 => ?_)
    ·
     have htt : is2 = true := hb3
     obtain ⟨_, hsome⟩ : is2 = true ∧ srchL l N h w (i + 1) (out.take i ++ [q.num - ((n : Nat) : Int)]) (bt - ((n : Nat) : Int)) = some o2 := g4.resolve_right fun k => by rw [htt] at k; cases k.1
     refine zC (zB ?_)
     refine sq rfl rfl hn rfl (zF rfl rfl) ?_
     refine zE (zA (zP (zZ (zM (zM (zZ (zM ?_)))))))
     exact ret_E (.inl rfl) ⟨(true, o2), g1, by dsimp only; rw [zB4 g2, zAn]; exact h2, g3, .inl ⟨rfl, by rw [hst]; exact zEL (by omega) h4 hsome⟩⟩ (yG rfl (.tmp rfl)) ⟨rfl, rfl, rfl, trivial⟩
    ·
     have htt : is2 = false := hb3
     obtain ⟨_, hno⟩ : is2 = false ∧ srchL l N h w (i + 1) (out.take i ++ [q.num - ((n : Nat) : Int)]) (bt - ((n : Nat) : Int)) = none := g4.resolve_left fun k => by rw [htt] at k; cases k.1
     refine zT (zX (zA (zB ?_)))
     refine sq rfl rfl hn rfl (zq rfl rfl rfl (r := ((n + 1 : Nat) : Int)) (i64w (by omega) (by omega))) ?_
     refine sq rfl rfl hn rfl (zG rfl rfl) ?_
     refine zE ?_
     exact zU ⟨(n + 1, o2), by omega, g1, by dsimp only; rw [zB4 g2, zAn]; exact h2, g3, fun n2 hn2 => by (by_cases e : n2 = n; (subst e; exact hno); exact h4 n2 (by dsimp only at hn2; omega))⟩ ⟨.inl rfl, zK _⟩ ⟨.inl rfl, .inl rfl, .inl rfl, trivial⟩ (by simp only; omega) (by repeat (first | exact kr _ | refine kc rfl ?_)) (by repeat (first | exact kr _ | refine kc rfl ?_))
   ·
    have hnM : n = M + 1 := by simp only [decide_eq_false_iff_not] at hb2; omega
    refine zk (zI (zI (zS (zA (zC (zB ?_))))))
    refine sq rfl rfl hn rfl (zF rfl rfl) ?_
    refine zE (zA (zP ?_))
    exact ret_E (.inl rfl) ⟨(false, o1), h1, h2, h3, .inr ⟨rfl, by rw [hst]; exact zCm fun n2 hn2 => h4 n2 (by omega)⟩⟩ (yG rfl (.tmp rfl)) ⟨rfl, rfl, rfl, trivial⟩
theorem deliver_all (l : Ldg) (N : Nat) (h : List Int) (H : Hok l N h) (w : Int) (b b10 bo b11 : Nat) : ∀ k, DelsOK l N h w b b10 bo b11 k := by
  intro k
  induction k with
  | zero => intro i bt out _ h; omega
  | succ k ih => intro i bt out h1 h2 h3 h4 h5 h6; exact deliver_step l N h H w b b10 bo b11 k ih i bt out h1 h2 h3 h4 h5 h6
def TryX (l : Ldg) (N : Nat) (h : List Int) (w bt : Int) : Type := {x : Bool × List Int // (x.1 = true ∧ srchL l N h w 0 [] bt = some x.2) ∨ (x.1 = false ∧ srchL l N h w 0 [] bt = none)}
theorem try_ok (l : Ldg) (N : Nat) (h : List Int) (H : Hok l N h) (w : Int) (b : Nat) (bt : Int) (hb50 : 0 ≤ bt) (hb51 : bt ≤ 100000) : EffAt Tryz.prog 103 [.d (.ptr (workC8 l b)), .d (handD h), .d (.int .i64 bt), .d (.int .i64 w)] [] (X := TryX l N h w bt) (fun x => .d (.tup [ints x.1.2, .bool x.1.1])) (fun _ => []) := by
 have hl6 := H.hl6
 refine EffAt.of_awp Tryz.func103 rfl (by kernel_rfl) rfl fun Γ hn => ?_
 refine zC (zB ?_)
 refine stepW (zr 4 rfl rfl rfl (nb hn rfl) rfl rfl) fun b4 => ?_
 refine stepW (zr 5 rfl rfl rfl (nb hn rfl) rfl rfl) fun b5 => ?_
 refine stepW (zr 7 rfl rfl rfl (nb hn rfl) rfl rfl) fun b7 => ?_
 refine sq rfl rfl hn rfl (zF rfl rfl) ?_
 refine sq rfl rfl hn rfl (zF rfl rfl) ?_
 refine zE (zA (zC ?_))
 refine zw (zp (t := 4) 4 rfl (nb hn rfl) rfl rfl trivial) ?_
 refine zw (zp (t := 5) 5 rfl (nb hn rfl) rfl rfl trivial) ?_
 refine zw (zp (t := 7) 7 rfl (nb hn rfl) rfl rfl trivial) ?_
 refine zB ?_
 refine sq rfl rfl hn rfl (zV rfl rfl Tryz.underlying119 rfl seesF0) ?_
 refine sq rfl rfl hn rfl (yF rfl rfl) ?_
 refine sq rfl rfl hn rfl (zO rfl rfl Tryz.underlying156 rfl sz50 rfl) ?_
 refine sq rfl rfl hn rfl (zO rfl rfl Tryz.underlying50 rfl sz48 rfl) ?_
 refine sq rfl rfl hn rfl (zV rfl rfl Tryz.underlying48 rfl seesF0) ?_
 refine sq rfl rfl hn rfl (zu rfl rfl Tryz.underlying48) ?_
 refine stepW (kz (n := l.dues.length) 1012 rfl rfl rfl (nb hn rfl) Tryz.underlying22 (show _ = some (some (.int .i64 0), 1, 8) from by kernel_rfl) rfl rfl rfl (by decide) rfl rfl (by rw [List.length_map]) (by rw [List.length_map]) (by omega) (by omega) (by omega)) fun b19 => ?_
 refine stepW (zg 1011 rfl rfl rfl (nb hn rfl) zr22 rfl rfl) fun b10 => ?_
 refine stepW (s_store1 rfl rfl rfl rfl rfl rfl (id := 1011) rfl sz22 (Nat.le_of_ble_eq_true rfl) rfl trivial) fun _ => ?_
 refine zE (zA (zC (zB ?_)))
 refine stepW (zg 1013 rfl rfl rfl (nb hn rfl) zr196 rfl rfl) fun b11 => ?_
 refine zE (zA (zC (zB ?_)))
 refine sq rfl rfl hn rfl (km rfl rfl rfl) ?_
 refine stepW (s_store1 rfl rfl rfl rfl rfl rfl (id := 1013) rfl sz196 (Nat.le_of_ble_eq_true rfl) rfl trivial) fun _ => ?_
 refine zE (zA (zC ?_))
 refine zw (gh_req (id := 1012) rfl (congrArg (fun z => Res.box b19 3 z) (zES _))) ?_
 refine zB ?_
 refine sq rfl rfl hn rfl (zN rfl rfl (id := 1013) rfl Tryz.underlying196 rfl rfl sees0) ?_
 refine sq rfl rfl hn rfl (zG rfl rfl) ?_
 refine stepW (s_callE (deliver_all l N h H w b b10 b19 b11 _ 0 bt (List.replicate l.dues.length 0) (Nat.zero_le _) (Nat.lt_succ_self _) hb50 hb51 (List.length_replicate ..) (fun y hy => by rw [List.eq_of_mem_replicate hy]; omega)) rfl rfl rfl (nb hn rfl) (.t rfl) rfl (.refl _) ⟨rfl, rfl, rfl, trivial⟩ (fun _ => rfl) (fun _ _ => trivial)) fun ⟨⟨is2, o2⟩, g1, g2, g3, g4⟩ => ?_
 refine sq rfl rfl hn rfl (zF rfl rfl) ?_
 refine zE (zA (zC (zB ?_)))
 refine sq rfl rfl hn rfl (zN rfl rfl (id := 1011) rfl Tryz.underlying22 rfl rfl sees0) ?_
 refine sq rfl rfl hn rfl (zG rfl rfl) ?_
 refine sq rfl rfl hn rfl (zF rfl rfl) ?_
 refine sq rfl rfl hn rfl (zF rfl rfl) ?_
 refine zE (zA (zP ?_))
 refine yp (g_freezeV (t := 8) (sz := 1) (n := l.dues.length) (ds := (o2.map intE).flatten) (es := o2.map intE) 1012 rfl rfl (by rw [zBV, List.append_nil]; exact kh _) (by rw [zBO zAR, List.length_map, g1]) (by have := zAQ (k := 1) (rows := o2.map intE) zAR; rw [List.length_map, g1] at this; exact this) (Nat.le_refl _) (by simp only [maxLen]; omega)) ?_
 exact ret_E (.inl rfl) ⟨(is2, o2), g4⟩ (yV rfl (.tmp rfl) (.tmp rfl)) trivial
def bestR (l : Ldg) (N : Nat) (h : List Int) (w : Int) : List Int × Int × Bool := match bestD (canL l N h) w l.dues with
  | some (d, n) => (d, n, true)
  | none => ([], 0, false)
theorem bestR_hit {l : Ldg} {N : Nat} {h : List Int} {w : Int} {O n : Nat} {o : List Int} (hO : owedI l.dues = (O : Int)) (hn : n ≤ O) (h1 : ∀ k : Nat, k < n → srchL l N h w 0 [] (k : Int) = none) (h2 : srchL l N h w 0 [] (n : Int) = some o) : bestR l N h w = (o, (n : Int), true) := by
  have : bestD (canL l N h) w l.dues = some (o, (n : Int)) := by
    unfold bestD
    rw [hO, Int.toNat_natCast]
    refine zEL (n := n) (by omega) (fun k hk => ?_) ?_
    · have := h1 k hk; unfold srchL at this; rw [List.drop_zero] at this; rw [this]; rfl
    · unfold srchL at h2; rw [List.drop_zero] at h2; rw [h2]; rfl
  unfold bestR; rw [this]
theorem bestR_miss {l : Ldg} {N : Nat} {h : List Int} {w : Int} {O : Nat} (hO : owedI l.dues = (O : Int)) (h1 : ∀ k : Nat, k < O + 1 → srchL l N h w 0 [] (k : Int) = none) : bestR l N h w = ([], 0, false) := by
  have : bestD (canL l N h) w l.dues = none := by
    unfold bestD
    rw [hO, Int.toNat_natCast]
    refine zCm fun k hk => ?_
    have := h1 k hk; unfold srchL at this; rw [List.drop_zero] at this; rw [this]; rfl
  unfold bestR; rw [this]
theorem zCq (l : Ldg) (N : Nat) (h : List Int) (H : Hok l N h) (w : Int) (b : Nat) : PureAt Tryz.prog 73 [.ptr (workC8 l b), handD h, .int .i64 w] (.tup [ints (bestR l N h w).1, .int .i64 (bestR l N h w).2.1, .bool (bestR l N h w).2.2]) := by
 have hl6 := H.hl6
 have how := zCn (qs := l.dues) fun q hq => by have := H.hq6 q hq; omega
 obtain ⟨O, hO⟩ : ∃ O : Nat, owedI l.dues = (O : Int) := ⟨(owedI l.dues).toNat, by omega⟩
 refine PureAt.of_awp Tryz.func73 rfl (by kernel_rfl) (Nat.le_of_ble_eq_true rfl) fun Γ hn hl => ?_
 refine zC (zB ?_)
 refine stepW (zr 4 rfl rfl rfl (nb hn rfl) rfl rfl) fun b4 => ?_
 refine sq rfl rfl hn rfl (zF rfl rfl) ?_
 refine sq rfl rfl hn rfl (zF rfl rfl) ?_
 refine sq rfl rfl hn rfl (zF rfl rfl) ?_
 refine zE (zA (zC (zC (zB ?_))))
 refine sq rfl rfl hn rfl (zG rfl rfl) ?_
 refine sq rfl rfl hn rfl (yF rfl rfl) ?_
 refine sq rfl rfl hn rfl (zO rfl rfl Tryz.underlying156 rfl sz50 rfl) ?_
 refine sq rfl rfl hn rfl (zf rfl rfl Tryz.underlying50 rfl sz50 rfl rfl seesF0) ?_
 refine stepW (s_call [] (fun _ => zFY l (fun q hq => by have := H.hq6 q hq; omega) (by omega)) rfl (zJ rfl) rfl (nb hn rfl) (fun _ => trivial) rfl rfl (.refl _)) fun _ => ?_
 refine sq rfl rfl hn rfl (zq rfl rfl rfl (r := ((O + 1 : Nat) : Int)) (by rw [hO]; exact i64w (by omega) (by omega))) ?_
 refine sq rfl rfl hn rfl (zG rfl rfl) ?_
 refine zE (zA (zR ?_))
 refine awp_loop_on (ι := {x : Nat // x ≤ O + 1 ∧ ∀ k : Nat, k < x → srchL l N h w 0 [] (k : Int) = none}) (fun x => (18, true, .d (.int .i64 (x.1 : Nat))) :: anys [19, 20, 9, 22, 23, 24, 25, 26, 21, 27, 28, 10, 11, 29, 32]) (fun x => []) (fun x => O + 1 - x.1) ⟨0, by omega, fun k hk => by omega⟩ ⟨.inl rfl, zK _⟩ trivial ?_
 rintro ⟨n, hnO0, h4⟩
 dsimp only
 refine zC (zB ?_)
 refine sq rfl rfl hn rfl (yB rfl rfl rfl) ?_
 refine zE (zA (zC ?_))
 refine zQ rfl (fun hb0 => ?_) (fun hb0 => ?_)
 ·
  have hnO : n ≤ O := by simp only [decide_eq_true_eq] at hb0; omega
  refine zT (zA (zC (zR (zC (zB ?_)))))
  refine sq rfl rfl hn rfl (zG rfl rfl) ?_
  refine sq rfl rfl hn rfl (zF rfl rfl) ?_
  refine zE (zA (zC (zB ?_)))
  refine sq rfl rfl hn rfl (zG rfl rfl) ?_
  refine sq rfl rfl hn rfl (za rfl rfl (id := 4) rfl Tryz.underlying121 rfl sz121 rfl rfl sees0) ?_
  refine sq rfl rfl hn rfl (zG rfl rfl) ?_
  refine sq rfl rfl hn rfl (zG rfl rfl) ?_
  refine stepW (s_callE (try_ok l N h H w b (n : Int) (by omega) (by omega)) rfl rfl rfl (nb hn rfl) (.d rfl) rfl (.refl _) trivial (fun _ => rfl) (fun _ _ => trivial)) fun ⟨⟨is2, o2⟩, g4⟩ => ?_
  refine sq rfl rfl hn rfl (zG rfl rfl) ?_
  refine sq rfl rfl hn rfl (zY rfl rfl rfl) ?_
  refine sq rfl rfl hn rfl (zY rfl rfl rfl) ?_
  refine sq rfl rfl hn rfl (zF rfl rfl) ?_
  refine sq rfl rfl hn rfl (zF rfl rfl) ?_
  refine zE (zA (zC (zB ?_)))
  refine sq rfl rfl hn rfl (zG rfl rfl) ?_
  refine zE (zA ?_)
  refine zQ rfl (fun hb1 => ?_) (fun hb1 => ?_)
  ·
   have htt : is2 = true := hb1
   obtain ⟨_, hsome⟩ : is2 = true ∧ srchL l N h w 0 [] (n : Int) = some o2 := g4.resolve_right fun k => by rw [htt] at k; cases k.1
   refine zC (zB ?_)
   refine sq rfl rfl hn rfl (zG rfl rfl) ?_
   refine sq rfl rfl hn rfl (zG rfl rfl) ?_
   refine sq rfl rfl hn rfl (zF rfl rfl) ?_
   refine sq rfl rfl hn rfl (zF rfl rfl) ?_
   refine sq rfl rfl hn rfl (zF rfl rfl) ?_
   refine zE (zA (zP (zZ (zM (zM (zZ (zM ?_)))))))
   refine zj (zFS (.inl rfl) hl rfl (.tmp rfl) (.tmp rfl) (.tmp rfl)) ?_
   rw [bestR_hit hO hnO h4 hsome]
  ·
   have htt : is2 = false := hb1
   obtain ⟨_, hno⟩ : is2 = false ∧ srchL l N h w 0 [] (n : Int) = none := g4.resolve_left fun k => by rw [htt] at k; cases k.1
   refine zT (zX (zA (zB ?_)))
   refine sq rfl rfl hn rfl (zq rfl rfl rfl (r := ((n + 1 : Nat) : Int)) (i64w (by omega) (by omega))) ?_
   refine sq rfl rfl hn rfl (zG rfl rfl) ?_
   refine zE ?_
   exact zU ⟨n + 1, by omega, fun k hk => by (by_cases e : k = n; (subst e; exact hno); exact h4 k (by omega))⟩ ⟨.inl rfl, zK _⟩ trivial (by simp only; omega) (by repeat (first | exact kr _ | refine kc rfl ?_)) (by repeat (first | exact kr _ | refine kc rfl ?_))
 ·
  have hnO : n = O + 1 := by simp only [decide_eq_false_iff_not] at hb0; omega
  refine zk (zI (zI (zS (zA (zC (zB ?_))))))
  refine sq rfl rfl hn rfl (zF rfl rfl) ?_
  refine sq rfl rfl hn rfl (zF rfl rfl) ?_
  refine sq rfl rfl hn rfl (zF rfl rfl) ?_
  refine zE (zA (zP ?_))
  refine zAB (zFS (.inl rfl) hl rfl (.tmp rfl) (.tmp rfl) (.tmp rfl)) ?_
  rw [bestR_miss hO fun k hk => h4 k (by omega)]; exact .tup (.cons (.nil 1) (.refl _))
end Go.Proofs.YtaokpncjemkhcaaGreat
namespace Go.Proofs.YtaokpncjemkhcaaGreat
open Go.RowKit
set_option maxRecDepth 20000
set_option linter.all false
theorem getD_z {l : List Int} {i : Nat} (h : i < l.length) : l[i]? = some (l.getD i 0) := by
  rw [List.getD_eq_getElem?_getD, List.getElem?_eq_getElem h]; rfl
theorem zDu {l : List Int} {i : Nat} (h : i < l.length) : (intsT l)[0 + i * 1]? = some (.d (.int .i64 (l.getD i 0))) := by
  unfold intsT; rw [Nat.zero_add, Nat.mul_one, List.getElem?_map, getD_z h]; rfl
theorem sum8_bd {d : List Int} (h : ∀ x ∈ d, 0 ≤ x ∧ x ≤ 4) : ∀ x ∈ d, -1000 ≤ x ∧ x ≤ 1000 := fun x hx => by have := h x hx; omega
end Go.Proofs.YtaokpncjemkhcaaGreat
namespace Go.Proofs.YtaokpncjemkhcaaGreat
set_option linter.all false
def asSights (N : Nat) : Nat → List Int → List Sight5
  | _, [] => []
  | k, h :: hs => ⟨(k : Int), h, (N : Int)⟩ :: asSights N (k + 1) hs
theorem zAC {N : Nat} {h : Int} : ∀ {hs : List Int} {k : Nat}, asSights N k (hs ++ [h]) = asSights N k hs ++ [⟨((k + hs.length : Nat) : Int), h, (N : Int)⟩]
  | [], k => rfl
  | x :: hs, k => by
    simp only [List.cons_append, asSights, zAC (hs := hs) (k := k + 1), List.length_cons]
    rw [show k + 1 + hs.length = k + (hs.length + 1) by omega]
theorem zAV {N : Nat} : ∀ {hs : List Int} {k : Nat}, (asSights N k hs).length = hs.length
  | [], _ => rfl
  | x :: hs, k => by simp only [asSights, List.length_cons, zAV (hs := hs)]
theorem zBh {N : Nat} : ∀ {hs : List Int} {k : Nat} {s : Sight5}, s ∈ asSights N k hs → (k : Int) ≤ s.sheet ∧ s.sheet < ((k + hs.length : Nat) : Int) ∧ s.house ∈ hs ∧ s.day = (N : Int)
  | [], _, _, h => by cases h
  | x :: hs, k, s, h => by
    simp only [asSights, List.mem_cons] at h
    rcases h with rfl | h
    · exact ⟨Int.le_refl _, by simp only [List.length_cons]; omega, List.mem_cons_self, rfl⟩
    · obtain ⟨h1, h2, h3, h4⟩ := zBh h
      exact ⟨by omega, by simp only [List.length_cons]; omega, List.mem_cons_of_mem _ h3, h4⟩
/-- The register with sights of the first sheets. -/
def seeReg (r : Reg) (N : Nat) (hs : List Int) : Reg := ⟨r.houses, r.start, r.entries, r.sights ++ asSights N 0 hs⟩
theorem see_nil {r : Reg} {N : Nat} : seeReg r N [] = r := by
  unfold seeReg asSights; rw [List.append_nil]
theorem see_snoc {r : Reg} {N : Nat} {hs : List Int} {h : Int} : seeReg r N (hs ++ [h]) = seeingR (seeReg r N hs) ⟨(hs.length : Int), h, (N : Int)⟩ := by
  unfold seeReg seeingR
  rw [zAC, Nat.zero_add, List.append_assoc]
theorem see_valid {r : Reg} {N : Nat} {hs : List Int} (v : Valid r) (h0 : r.sights = []) (hl : hs.length ≤ r.start.length) (hb : ∀ x ∈ hs, 0 ≤ x ∧ x ≤ r.houses - 1) (hN : N ≤ 9) : Valid (seeReg r N hs) := by
  have hs4 := v.s4
  refine ⟨v.h1, v.h4, v.s1, v.s4, v.e6, ?_, v.st, v.en, fun s hs' => ?_⟩
  · show (r.sights ++ asSights N 0 hs).length ≤ 4
    rw [h0, List.nil_append, zAV]; omega
  · have hs2 : s ∈ r.sights ++ asSights N 0 hs := hs'
    rw [h0, List.nil_append] at hs2
    obtain ⟨h1, h2, h3, h4⟩ := zBh hs2
    have := hb _ h3
    exact ⟨by omega, by show s.sheet ≤ (r.start.length : Int) - 1; omega, this.1, this.2, by omega, by omega⟩
theorem snoc_ind {P : List Int → Prop} (h0 : P []) (h1 : ∀ l x, P l → P (l ++ [x])) : ∀ l, P l := fun l => by
  have key : ∀ n, ∀ l : List Int, l.length = n → P l := fun n => by
    induction n with
    | zero => intro l hl; rw [List.eq_nil_of_length_eq_zero hl]; exact h0
    | succ n ih =>
      intro l hl
      have hne : l ≠ [] := by rintro rfl; cases hl
      rw [← List.dropLast_concat_getLast hne]
      exact h1 _ _ (ih _ (by rw [List.length_dropLast]; omega))
  exact key _ l rfl
theorem zAm {l : List Int} {x : Int} {s : Nat} (h : s < l.length) : (l ++ [x]).getD s 0 = l.getD s 0 := by
  rw [List.getD_eq_getElem?_getD, List.getD_eq_getElem?_getD, List.getElem?_append_left h]
theorem zAy {l : List Int} {x : Int} : (l ++ [x]).getD l.length 0 = x := by
  rw [List.getD_eq_getElem?_getD, List.getElem?_append_right (Nat.le_refl _)]; simp
theorem zBl {r : Reg} {N : Nat} (t : List Int) (ds : List Nat) : ∀ hs : List Int, Truth (seeReg r N hs) t ds ↔ Truth r t ds ∧ ∀ m, ds[N]? = some m → ∀ s, s < hs.length → (placesA r m).getD s 0 = hs.getD s 0 := by
  refine snoc_ind ?_ fun l x ih => ?_
  · rw [see_nil]; exact ⟨fun h => ⟨h, fun _ _ s hs => by cases hs⟩, fun h => h.1⟩
  · rw [see_snoc, see_truth, ih]
    have hp : ∀ m, placesA (seeReg r N l) m = placesA r m := fun _ => rfl
    constructor
    · rintro ⟨⟨h1, h2⟩, h3⟩
      refine ⟨h1, fun m hm s hs => ?_⟩
      rw [List.length_append, List.length_singleton] at hs
      by_cases e : s = l.length
      · subst e
        have := h3 N m hm
        rw [hp] at this
        unfold seenB at this
        simp only [bne_self_eq_false, Bool.false_or, Int.toNat_natCast, beq_iff_eq] at this
        rw [zAy]; exact this
      · rw [zAm (by omega)]; exact h2 m hm s (by omega)
    · rintro ⟨h1, h2⟩
      refine ⟨⟨h1, fun m hm s hs => ?_⟩, fun j x' hj => ?_⟩
      · have := h2 m hm s (by rw [List.length_append]; omega)
        rwa [zAm hs] at this
      · unfold seenB
        by_cases e : j = N
        · subst e
          have := h2 x' hj l.length (by rw [List.length_append, List.length_singleton]; omega)
          rw [zAy] at this
          rw [hp, Int.toNat_natCast, this]; simp
        · have : ((N : Int) != (j : Int)) = true := by simp; omega
          rw [this]; rfl
/-- The first sheets are in these houses at the end of day N, in some truth. -/
def heldB (r : Reg) (N : Nat) (hs : List Int) : Bool := (allDays r).any fun o => (List.range hs.length).all fun s => houseAt o N s == hs.getD s 0
theorem zAx {r : Reg} {N : Nat} {hs : List Int} : heldB r N hs = true ↔ ∃ o ∈ allDays r, ∀ s, s < hs.length → houseAt o N s = hs.getD s 0 := by
  unfold heldB
  simp only [List.any_eq_true, List.all_eq_true, List.mem_range, beq_iff_eq]
theorem zFJ {r : Reg} {N : Nat} {o : List Int} (v : Valid r) (hN : N ≤ 9) (ho : o ∈ allDays r) : ∃ t ds m, Truth r t ds ∧ o = daysOf r t ∧ ds[N]? = some m ∧ Pair r N m o := by
  unfold allDays at ho
  obtain ⟨t, ht, rfl⟩ := List.mem_map.1 ho
  obtain ⟨ds, T⟩ := (kj v).1 ht
  obtain ⟨m, h1, h2⟩ := zAY v T hN
  exact ⟨t, ds, m, T, rfl, h1, h2⟩
theorem zEJ {r : Reg} {N s : Nat} {o : List Int} (v : Valid r) (hN : N ≤ 9) (ho : o ∈ allDays r) (hs : s < r.start.length) : 0 ≤ houseAt o N s ∧ houseAt o N s < r.houses := by
  obtain ⟨_, _, m, _, _, _, p⟩ := zFJ v hN ho
  have h4 := v.s4
  rw [p.1 s (by omega)]
  exact p.2.2 s hs
theorem holds_held {r : Reg} {N : Nat} {hs : List Int} (v : Valid r) (vx : Valid (seeReg r N hs)) (hN : N ≤ 9) (hl : hs.length ≤ r.start.length) : hasT (seeReg r N hs) ↔ heldB r N hs = true := by
  have h4 := v.s4
  unfold hasT
  rw [goes_truth vx, zAx]
  constructor
  · rintro ⟨t, ds, T⟩
    obtain ⟨T1, h1⟩ := (zBl t ds hs).1 T
    obtain ⟨m, hm, p⟩ := zAY v T1 hN
    refine ⟨daysOf r t, ?_, fun s hs' => ?_⟩
    · unfold allDays; exact List.mem_map.2 ⟨t, (kj v).2 ⟨ds, T1⟩, rfl⟩
    · rw [p.1 s (by omega)]; exact h1 m hm s hs'
  · rintro ⟨o, ho, h⟩
    obtain ⟨t, ds, m, T, rfl, hm, p⟩ := zFJ v hN ho
    refine ⟨t, ds, (zBl t ds hs).2 ⟨T, fun m' hm' s hs' => ?_⟩⟩
    rw [hm] at hm'; cases hm'
    rw [← p.1 s (by omega)]; exact h s hs'
/-- The houses in which sheet s can be. -/
def candL (r : Reg) (N : Nat) (s : Nat) : List Int := refHolders r (allDays r) s N r.houses.toNat
theorem cand_mem {r : Reg} {N s : Nat} {y : Int} (v : Valid r) (hN : N ≤ 9) (hs : s < r.start.length) : y ∈ candL r N s ↔ ∃ o ∈ allDays r, houseAt o N s = y := by
  unfold candL refHolders
  simp only [List.mem_map, List.mem_filter, List.mem_range, List.any_eq_true, beq_iff_eq]
  constructor
  · rintro ⟨h, ⟨_, o, ho, e⟩, rfl⟩; exact ⟨o, ho, e⟩
  · rintro ⟨o, ho, e⟩
    have := zEJ v hN ho hs
    exact ⟨y.toNat, ⟨by omega, o, ho, by omega⟩, by show ((y.toNat : Nat) : Int) = y; omega⟩
theorem held_more {r : Reg} {N : Nat} (l : List Int) (x : Int) (h : heldB r N (l ++ [x]) = true) : heldB r N l = true := by
  rw [zAx] at h ⊢
  obtain ⟨o, ho, h⟩ := h
  exact ⟨o, ho, fun s hs => by have := h s (by rw [List.length_append]; omega); rwa [zAm hs] at this⟩
/-- All ways in which all sheets can be in houses. -/
def waysL (r : Reg) (N : Nat) : List (List Int) := putL (heldB r N) (candL r N) r.start.length []
theorem zBv {r : Reg} {N : Nat} {p : List Int} (v : Valid r) (hN : N ≤ 9) : p ∈ waysL r N ↔ p.length = r.start.length ∧ ∃ o ∈ allDays r, ∀ s, s < p.length → houseAt o N s = p.getD s 0 := by
  unfold waysL
  rw [zEY held_more _ _ _ fun l y hl hlt => ?_]
  · constructor
    · rintro ⟨t, rfl, h1, h2⟩; exact ⟨h1, zAx.1 h2⟩
    · rintro ⟨h1, h2⟩; exact ⟨p, rfl, h1, zAx.2 h2⟩
  · rw [List.length_nil, Nat.zero_add] at hlt
    obtain ⟨o, ho, h⟩ := zAx.1 hl
    refine (cand_mem v hN hlt).2 ⟨o, ho, ?_⟩
    have := h l.length (by rw [List.length_append, List.length_singleton]; omega)
    rwa [zAy] at this
/-- How many sheets each house has. -/
def countH (H : Nat) (p : List Int) : List Int := (List.range H).map fun (a : Nat) => ((p.countP fun x => x == (a : Int) : Nat) : Int)
theorem kK {H : Nat} {p : List Int} : (countH H p).length = H := by simp [countH]
/-- The reference's test. -/
def isH (r : Reg) (N : Nat) (l : List Int) : Bool := (allDays r).any fun o => (List.range l.length).all fun (a : Nat) => ((countAt o N r.start.length (a : Int) : Nat) : Int) == l.getD a 0
theorem zA8 {r : Reg} {N : Nat} {l : List Int} : isH r N l = true ↔ ∃ o ∈ allDays r, ∀ a, a < l.length → ((countAt o N r.start.length (a : Int) : Nat) : Int) = l.getD a 0 := by
  unfold isH
  simp only [List.any_eq_true, List.all_eq_true, List.mem_range, beq_iff_eq]
theorem countAt_le {o : List Int} {N s : Nat} {a : Int} : countAt o N s a ≤ s := by
  unfold countAt
  have := List.countP_le_length (p := fun j => houseAt o N j == a) (l := List.range s)
  simpa using this
theorem zFc {r : Reg} {N : Nat} (v : Valid r) (l : List Int) (h : isH r N l = true) : ∀ x ∈ l, 0 ≤ x ∧ x ≤ 4 := fun x hx => by
  obtain ⟨o, _, ho⟩ := zA8.1 h
  obtain ⟨a, ha, rfl⟩ := List.mem_iff_getElem.1 hx
  have h1 := ho a ha
  have h2 := countAt_le (o := o) (N := N) (s := r.start.length) (a := (a : Int))
  have h4 := v.s4
  rw [List.getD_eq_getElem?_getD, List.getElem?_eq_getElem ha, Option.getD_some] at h1
  omega
theorem ways_count {r : Reg} {N : Nat} {p o : List Int} {a : Int} (hl : p.length = r.start.length) (ho : ∀ s, s < p.length → houseAt o N s = p.getD s 0) : p.countP (fun x => x == a) = countAt o N r.start.length a := by
  unfold countAt
  have : p = (List.range r.start.length).map fun s => houseAt o N s := by
    apply List.ext_getElem?
    intro i
    rw [List.getElem?_map]
    by_cases hi : i < r.start.length
    · rw [List.getElem?_range hi, Option.map_some, ho i (by omega), List.getD_eq_getElem?_getD, List.getElem?_eq_getElem (by omega)]; rfl
    · rw [List.getElem?_eq_none (by omega), List.getElem?_eq_none (by simpa using hi)]; rfl
  rw [this, List.countP_map]; rfl
/-- The hands, before they are sorted. -/
def rawHands (r : Reg) (N : Nat) : List (List Int) := (waysL r N).foldl (fun o p => addNew o (countH r.houses.toNat p)) []
theorem zEf {r : Reg} {N : Nat} {l : List Int} (v : Valid r) (hN : N ≤ 9) : l ∈ rawHands r N ↔ l.length = r.houses.toNat ∧ isH r N l = true := by
  unfold rawHands
  rw [kT]
  constructor
  · rintro (h | ⟨p, hp, rfl⟩)
    · cases h
    · obtain ⟨h1, o, ho, h2⟩ := (zBv v hN).1 hp
      refine ⟨kK, zA8.2 ⟨o, ho, fun a ha => ?_⟩⟩
      rw [kK] at ha
      unfold countH
      rw [List.getD_eq_getElem?_getD, List.getElem?_map, List.getElem?_range ha, Option.map_some, Option.getD_some, ways_count h1 h2]
  · rintro ⟨h1, h2⟩
    obtain ⟨o, ho, h2⟩ := zA8.1 h2
    right
    have hw : (List.range r.start.length).map (fun s => houseAt o N s) ∈ waysL r N := (zBv v hN).2 ⟨by simp, o, ho, fun s hs => by
      have hs' : s < r.start.length := by simpa using hs
      rw [List.getD_eq_getElem?_getD, List.getElem?_map, List.getElem?_range hs']; rfl⟩
    refine ⟨_, hw, ?_⟩
    apply List.ext_getElem?
    intro a
    by_cases ha : a < r.houses.toNat
    · have h3 := h2 a (by omega)
      unfold countH
      rw [List.getElem?_map, List.getElem?_range ha, Option.map_some]
      rw [List.getD_eq_getElem?_getD, List.getElem?_eq_getElem (by omega), Option.getD_some] at h3
      rw [List.getElem?_eq_getElem (by omega), ← h3]
      congr 2
      unfold countAt
      rw [List.countP_map]; rfl
    · rw [List.getElem?_eq_none (by omega), List.getElem?_eq_none (by rw [kK]; omega)]
theorem raw_nodup {r : Reg} {N : Nat} : (rawHands r N).Nodup := zA4 _ _ List.nodup_nil
/-- All possible hands, in order. -/
def handsL (r : Reg) (N : Nat) : List (List Int) := refHandsL r.houses.toNat (isH r N)
theorem sorted_hands {r : Reg} {N : Nat} {H : List (List Int)} (v : Valid r) (hN : N ≤ 9) (hs : Sorted8 H) (hm : ∀ l, l ∈ H ↔ l ∈ rawHands r N) : H = handsL r N :=
  hands_law hs (fun l h _ => zFc v l h) fun l => by rw [hm, zEf v hN]
theorem kX {r : Reg} {N : Nat} {l : List Int} (v : Valid r) : l ∈ handsL r N ↔ l.length = r.houses.toNat ∧ isH r N l = true := zBj fun l h _ => zFc v l h
theorem hands_nil {r : Reg} {N : Nat} (v : Valid r) (hN : N ≤ 9) : handsL r N = [] ↔ allDays r = [] := by
  constructor
  · intro h
    cases hq : allDays r with
    | nil => rfl
    | cons o l =>
      exfalso
      have ho : o ∈ allDays r := by rw [hq]; exact List.mem_cons_self
      have : countH r.houses.toNat ((List.range r.start.length).map fun s => houseAt o N s) ∈ handsL r N := by
        rw [kX v, ← zEf v hN]
        unfold rawHands
        rw [kT]
        refine .inr ⟨_, (zBv v hN).2 ⟨by simp, o, ho, fun s hs => ?_⟩, rfl⟩
        have hs' : s < r.start.length := by simpa using hs
        rw [List.getD_eq_getElem?_getD, List.getElem?_map, List.getElem?_range hs']; rfl
      rw [h] at this; cases this
  · intro h
    cases hq : handsL r N with
    | nil => rfl
    | cons l L =>
      have : l ∈ handsL r N := by rw [hq]; exact List.mem_cons_self
      obtain ⟨o, ho, _⟩ := zA8.1 ((kX v).1 this).2
      rw [h] at ho; cases ho
theorem zEi {r : Reg} {N : Nat} {l : List Int} (v : Valid r) (h : l ∈ handsL r N) : l.length = r.houses.toNat ∧ ∀ x ∈ l, 0 ≤ x ∧ x ≤ 4 := ⟨((kX v).1 h).1, zFc v l ((kX v).1 h).2⟩
end Go.Proofs.YtaokpncjemkhcaaGreat
