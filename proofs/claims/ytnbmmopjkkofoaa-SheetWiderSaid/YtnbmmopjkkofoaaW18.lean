/-
  Walks by the rules of Base, printed by gen.py: wider days. No condition: no statement of the seat is proved here.
-/
import Derived.Test.YtnbmmopjkkofoaaW16
namespace Go.Proofs.Ytnbmmopjkkofoaa
open Go.RowKit
set_option maxRecDepth 20000
set_option linter.all false

/-- The cells of entries. -/
def cells6 (es : List Ent5) : List TV := ((es.map entE).flatten).map .d
theorem cells6_cons (e : Ent5) (es : List Ent5) : cells6 (e :: es) = (entE e).map .d ++ cells6 es := by simp [cells6]
theorem cells6_len (es : List Ent5) : (cells6 es).length = es.length * 6 := by
  induction es with
  | nil => rfl
  | cons e es ih => rw [cells6_cons, List.length_append, ih, List.length_cons]; simp; omega
theorem c6_get : ∀ {es : List Ent5} {rest : List TV} {i j k : Nat} {e : Ent5} {d : D}, es[i]? = some e → k = i * 6 + j → (entE e)[j]? = some d → (cells6 es ++ rest)[k]? = some (.d d)
  | [], _, _, _, _, _, _, h, _, _ => by simp at h
  | e :: es, rest, 0, j, k, e', d, h, hk, hd => by
    simp only [List.getElem?_cons_zero, Option.some.injEq] at h
    subst h
    have hj := (List.getElem?_eq_some_iff.1 hd).1
    rw [cells6_cons, hk, Nat.zero_mul, Nat.zero_add, List.append_assoc, List.getElem?_append_left (by simpa using hj), List.getElem?_map, hd]
    rfl
  | e :: es, rest, i + 1, j, k, e', d, h, hk, hd => by
    rw [cells6_cons, List.append_assoc, List.getElem?_append_right (by simp; omega)]
    exact c6_get (i := i) (by simpa using h) (by simp; omega) hd
theorem c6_set : ∀ {es : List Ent5} {rest : List TV} {i j k : Nat} {e e' : Ent5} {x : D}, es[i]? = some e → k = i * 6 + j → j < 6 → (entE e).set j x = entE e' → (cells6 es ++ rest).set k (.d x) = cells6 (es.set i e') ++ rest
  | [], _, _, _, _, _, _, _, h, _, _, _ => by simp at h
  | e :: es, rest, 0, j, k, e1, e', x, h, hk, hj, he => by
    simp only [List.getElem?_cons_zero, Option.some.injEq] at h
    subst h
    rw [cells6_cons, hk, Nat.zero_mul, Nat.zero_add, List.append_assoc, List.set_append_left _ _ (by simp; omega), ← List.map_set, he, List.set_cons_zero, cells6_cons, List.append_assoc]
  | e :: es, rest, i + 1, j, k, e1, e', x, h, hk, hj, he => by
    rw [cells6_cons, List.append_assoc, List.set_append_right _ _ (by simp; omega), List.set_cons_succ, cells6_cons, List.append_assoc]
    congr 1
    exact c6_set (i := i) (by simpa using h) (by simp; omega) hj he
theorem ents_chunk (es : List Ent5) : chunk 6 es.length (es.map entE).flatten = es.map entE := by
  induction es with
  | nil => rfl
  | cons e es ih => simp only [List.map_cons, List.flatten_cons, List.length_cons, chunk]; rw [List.take_left' (show (entE e).length = 6 from rfl), List.drop_left' (show (entE e).length = 6 from rfl), ih]
/-- A wider day. -/
def wideE (b : Nat) (e : Ent5) : Ent5 := ⟨e.kind, e.sheet, e.frm, e.to, max 0 (e.lo - (b % 3 : Nat)), min 9 (e.hi + (b / 3 % 3 : Nat))⟩
def passE (e : Ent5) : Ent5 := if e.kind = 2 then ⟨0, e.sheet, e.frm, e.to, e.lo, e.hi⟩ else e
def wideR (r : Reg) (j b : Nat) (e : Ent5) : Reg := ⟨r.houses, r.start, r.entries.set j (wideE b e), r.sights⟩
def passR (r : Reg) : Reg := ⟨r.houses, r.start, r.entries.map passE, r.sights⟩
theorem Pt.set {α : Type} {R : α → α → Prop} (hr : ∀ a, R a a) : ∀ {l : List α} {i : Nat} {a b : α}, l[i]? = some a → R a b → Pt R l (l.set i b)
  | [], _, _, _, h, _ => by simp at h
  | x :: l, 0, a, b, h, hab => by
    simp only [List.getElem?_cons_zero, Option.some.injEq] at h
    subst h
    exact ⟨hab, Pt.refl hr l⟩
  | x :: l, i + 1, a, b, h, hab => ⟨hr x, Pt.set hr (i := i) (by simpa using h) hab⟩
theorem loose_wide {r : Reg} {j b : Nat} {e : Ent5} (v : Valid r) (he : r.entries[j]? = some e) : Loose r (wideR r j b e) ∧ Pt SameKind r.entries (wideR r j b e).entries ∧ Valid (wideR r j b e) := by
  have hen := v.en e (List.mem_of_getElem? he)
  refine ⟨⟨rfl, Pt.set (fun _ => ⟨rfl, rfl, rfl⟩) he ⟨rfl, rfl, rfl⟩, Pt.set (fun _ => ⟨Int.le_refl _, Int.le_refl _⟩) he ⟨?_, ?_⟩, .inl (Pt.set (R := SameKind) (fun _ => rfl) he rfl), fun s hs => hs⟩, Pt.set (R := SameKind) (fun _ => rfl) he rfl, ⟨v.h1, v.h4, v.s1, v.s4, by show (r.entries.set _ _).length ≤ 6; rw [List.length_set]; exact v.e6, v.g4, v.st, fun x hx => ?_, v.si⟩⟩
  · show max 0 (e.lo - (b % 3 : Nat)) ≤ e.lo; omega
  · show e.hi ≤ min 9 (e.hi + (b / 3 % 3 : Nat)); omega
  · rcases List.mem_or_eq_of_mem_set hx with hx | rfl
    · exact v.en x hx
    · show 0 ≤ e.kind ∧ e.kind ≤ 2 ∧ 0 ≤ e.sheet ∧ e.sheet ≤ (r.start.length : Int) - 1 ∧ 0 ≤ e.frm ∧ e.frm ≤ r.houses - 1 ∧ 0 ≤ e.to ∧ e.to ≤ r.houses - 1 ∧ e.frm ≠ e.to ∧ 0 ≤ max 0 (e.lo - (b % 3 : Nat)) ∧ max 0 (e.lo - (b % 3 : Nat)) ≤ min 9 (e.hi + (b / 3 % 3 : Nat)) ∧ min 9 (e.hi + (b / 3 % 3 : Nat)) ≤ 9
      omega
theorem passE_same (e : Ent5) : (passE e).sheet = e.sheet ∧ (passE e).frm = e.frm ∧ (passE e).to = e.to ∧ (passE e).lo = e.lo ∧ (passE e).hi = e.hi ∧ (passE e).kind ≠ 2 ∧ ((passE e).kind = 0 ∨ (passE e).kind = e.kind) := by
  unfold passE
  by_cases h : e.kind = 2
  · rw [if_pos h]; simp
  · rw [if_neg h]; simp [h]
theorem Pt.map_right {α : Type} {R : α → α → Prop} {f : α → α} (h : ∀ a, R a (f a)) : ∀ l : List α, Pt R l (l.map f)
  | [] => trivial
  | a :: l => ⟨h a, Pt.map_right h l⟩
theorem loose_pass {r : Reg} (v : Valid r) : Loose r (passR r) ∧ Valid (passR r) := by
  refine ⟨⟨rfl, Pt.map_right (fun e => ?_) _, Pt.map_right (fun e => ?_) _, .inr fun e he => ?_, fun s hs => hs⟩, ⟨v.h1, v.h4, v.s1, v.s4, by show (r.entries.map _).length ≤ 6; rw [List.length_map]; exact v.e6, v.g4, v.st, fun x hx => ?_, v.si⟩⟩
  · have := passE_same e; exact ⟨this.1, this.2.1, this.2.2.1⟩
  · have := passE_same e; exact ⟨by omega, by omega⟩
  · obtain ⟨e0, _, rfl⟩ := List.mem_map.1 he
    exact (passE_same e0).2.2.2.2.2.1
  · obtain ⟨e0, h0, rfl⟩ := List.mem_map.1 hx
    have h1 := v.en e0 h0
    obtain ⟨q1, q2, q3, q4, q5, q6, q7⟩ := passE_same e0
    rw [q1, q2, q3, q4, q5]
    show 0 ≤ (passE e0).kind ∧ (passE e0).kind ≤ 2 ∧ 0 ≤ e0.sheet ∧ e0.sheet ≤ (r.start.length : Int) - 1 ∧ 0 ≤ e0.frm ∧ e0.frm ≤ r.houses - 1 ∧ 0 ≤ e0.to ∧ e0.to ≤ r.houses - 1 ∧ e0.frm ≠ e0.to ∧ 0 ≤ e0.lo ∧ e0.lo ≤ e0.hi ∧ e0.hi ≤ 9
    omega
theorem sub_hold {r x : Reg} {N s : Nat} {out out' : List Nat} (h : Loose r x) (v : Valid r) (vx : Valid x) (hN : N ≤ 9) (h1 : EvOK r N out) (h2 : EvOK x N out') : subsetB (holdR r (s : Nat) out) (holdR x (s : Nat) out') = true := by
  unfold subsetB
  rw [List.all_eq_true]
  intro y hy
  obtain ⟨m, k1, k2⟩ := (hold_mem h1).1 hy
  unfold hasB
  rw [List.any_eq_true]
  exact ⟨y, (hold_mem h2).2 ⟨m, h.eve v vx hN k1, by rw [places_same h.st h.way]; exact k2⟩, by simp⟩
theorem wider_f {r : Reg} {b : Bool} (h : (!(thinB r && (checkE r == 0)) || b) = false) : Valid r ∧ b = false := by
  simp only [Bool.or_eq_false_iff] at h
  exact ⟨ready_f h.1, h.2⟩
theorem pass_step {es : List Ent5} {i : Nat} {e : Ent5} (h : es[i]? = some e) : ((es.take i).map passE ++ es.drop i).set i (passE e) = (es.take (i + 1)).map passE ++ es.drop (i + 1) := by
  have hlt := (List.getElem?_eq_some_iff.1 h).1
  rw [List.set_append_right _ _ (by simp; omega), List.length_map, List.length_take, Nat.min_eq_left (by omega), Nat.sub_self, drop_of h, List.set_cons_zero, List.take_add_one, h]
  simp
theorem pass_get {es : List Ent5} {i : Nat} {e : Ent5} (h : es[i]? = some e) : ((es.take i).map passE ++ es.drop i)[i]? = some e := by
  have hlt := (List.getElem?_eq_some_iff.1 h).1
  rw [List.getElem?_append_right (by simp; omega), List.length_map, List.length_take, Nat.min_eq_left (by omega), Nat.sub_self, drop_of h]
  rfl
theorem pass_id {es : List Ent5} {i : Nat} {e : Ent5} (h : es[i]? = some e) (hk : e.kind ≠ 2) : (es.take i).map passE ++ es.drop i = (es.take (i + 1)).map passE ++ es.drop (i + 1) := by
  rw [← pass_step h]
  have : passE e = e := by unfold passE; rw [if_neg hk]
  rw [this]
  apply List.ext_getElem?
  intro j
  rw [List.getElem?_set]
  split
  · rename_i hj; subst hj
    rw [pass_get h, if_pos (List.getElem?_eq_some_iff.1 (pass_get h)).1]
  · rfl
theorem vec6 {es : List Ent5} {v : Value} (h : VecV v 6 ([] ++ (es.map entE).flatten.map .d)) (h0 : 0 < es.length) : ∃ b c, v = .slice (some ⟨b, 0, none⟩) es.length c ∧ es.length ≤ c ∧ c ≤ maxLen := by
  have hl := cells6_len es
  rcases h with ⟨_, h⟩ | ⟨b, n, c, rfl, h1, h2, h3⟩
  · have : (cells6 es).length = 0 := by rw [show cells6 es = [] from h]; rfl
    omega
  · have h3' : (cells6 es).length = n * 6 := h3
    have : n = es.length := by omega
    subst this
    exact ⟨b, c, rfl, h1, h2⟩
theorem vec0 (b sz : Nat) : VecV (.slice (some ⟨b, 0, none⟩) 0 0) sz [] := .inr ⟨b, 0, 0, rfl, Nat.le_refl _, Nat.zero_le _, by simp⟩
theorem quoN {a b : Nat} (ha : a ≤ 9223372036854775807) (hb : 0 < b) : IntKind.i64.wrap ((a : Int).tdiv (b : Int)) = ((a / b : Nat) : Int) := by
  rw [Int.tdiv_eq_ediv_of_nonneg (by omega)]
  have : ((a : Int) / (b : Int)) = ((a / b : Nat) : Int) := by simp
  rw [this]
  have h := Nat.div_le_self a b
  generalize a / b = c at *
  exact i64w (by omega) rfl
theorem set_get {es : List Ent5} {i : Nat} {e e' : Ent5} (h : es[i]? = some e) : (es.set i e')[i]? = some e' := by
  have hlt := (List.getElem?_eq_some_iff.1 h).1
  simp [hlt]
theorem pass_ent {e : Ent5} (h : e.kind = 2) : (entE e).set 0 (.int .i64 0) = entE (passE e) := by
  unfold passE; rw [if_pos h]; rfl
theorem fl6 {es : List Ent5} {n : Nat} (h : es.length = n) : ((es.map entE).flatten).length = n * 6 := by
  have := cells6_len es
  unfold cells6 at this
  rw [List.length_map] at this
  omega
theorem chunk6 {es : List Ent5} {n : Nat} (h : es.length = n) : chunk 6 n (es.map entE).flatten = es.map entE := by
  subst h; exact ents_chunk es
theorem len6 {es : List Ent5} {n : Nat} (h : (cells6 es).length = n * 6) : n = es.length := by
  rw [cells6_len] at h; omega


theorem SheetWider_eff (r : Reg) (p q s a o : Nat) (hp5 : p < 256) (hq5 : q < 256) (hs5 : s < 256) (ha5 : a < 256) (ho5 : o < 256) : EffAt Try.prog 7 [.d (regD r), .d (.int .u8 (p : Nat)), .d (.int .u8 (q : Nat)), .d (.int .u8 (s : Nat)), .d (.int .u8 (a : Nat)), .d (.int .u8 (o : Nat))] [] (X := Unit) (fun _ => .d (.bool true)) (fun _ => []) := by
  refine EffAt.of_awp Try.func7 rfl (by kernel_rfl) rfl fun Γ hn => ?_
  refine awp_seq ?_
  refine awp_region ?_
  refine stepW (s_box 6 rfl rfl rfl (nb hn rfl) rfl rfl) fun b6 => ?_
  refine sq rfl rfl hn rfl (q_assign rfl rfl) ?_
  refine run_nil ?_
  refine aend_then ?_
  refine awp_seq ?_
  refine awp_seq ?_
  refine awp_region ?_
  refine sq rfl rfl hn rfl (q_loadAd rfl rfl (id := 6) rfl Try.underlying26 rfl sz26 rfl rfl sees0) ?_
  refine stepW (s_call [] (fun _ => ready_ok _) rfl (guard_none rfl) rfl (nb hn rfl) (fun _ => trivial) rfl rfl (.refl _)) fun _ => ?_
  refine sq rfl rfl hn rfl (q_not rfl rfl) ?_
  refine sq rfl rfl hn rfl (q_move rfl rfl) ?_
  refine stepG [] (guard_some rfl rfl rfl) rfl (nb hn rfl) (fun hc => trivial) (fun hc => q_fieldAddr rfl rfl Try.underlying26 rfl sz23) ?_
  refine stepG [(32, _)] (guard_some rfl rfl rfl) rfl (nb hn rfl) (fun hc => ⟨⟨_, rfl, hc⟩, trivial⟩) (fun hc => q_load rfl rfl (id := 6) rfl Try.underlying23 rfl rfl sees0) ?_
  refine stepG [(33, _)] (guard_some rfl rfl rfl) rfl (nb hn rfl) (fun hc => ⟨⟨_, rfl, hc⟩, trivial⟩) (fun hc => q_len rfl rfl Try.underlying23) ?_
  refine stepG [(34, _)] (guard_some rfl rfl rfl) rfl (nb hn rfl) (fun hc => ⟨⟨_, rfl, hc⟩, trivial⟩) (fun hc => q_eql rfl rfl rfl) ?_
  refine sq rfl rfl hn rfl (q_or rfl rfl rfl (by intro hB; first | (rw [hB]; rfl) | (rw [hB, hc]; rfl) | simp_all)) ?_
  refine run_nil ?_
  refine aend_then ?_
  refine awp_cond rfl (fun hb0 => ?_) (fun hb0 => ?_)
  · skip
    refine awp_seq ?_
    refine awp_region ?_
    refine stepW (s_call [] (fun _ => awake_ok) rfl (guard_none rfl) rfl (nb hn rfl) (fun _ => trivial) rfl rfl (.refl _)) fun _ => ?_
    refine sq rfl rfl hn rfl (q_assign rfl rfl) ?_
    refine run_nil ?_
    refine aend_then ?_
    refine awp_ret ?_
    refine aend_then_ret ?_
    exact ret_E (.inl rfl) () (hands_1 rfl (.tmp rfl)) trivial
  · skip
    obtain ⟨v, hwl⟩ := wider_f hb0
    have hv6 := v.e6
    have hvg := v.g4
    have hvs := v.s4
    have hvs1 := v.s1
    have hv1 := v.h1
    have hvh := v.h4
    have hel : 0 < r.entries.length := by simp at hwl; cases hr : r.entries with | nil => (rw [hr] at hwl; exact (hwl rfl).elim) | cons _ _ => simp
    have hj5 := Nat.mod_lt p hel
    obtain ⟨j, hjd⟩ : ∃ j, p % r.entries.length = j := ⟨_, rfl⟩
    rw [hjd] at hj5
    obtain ⟨e, he⟩ := ex_get hj5
    have hen := v.en e (List.mem_of_getElem? he)
    obtain ⟨hlw, hsk, vw⟩ := loose_wide (b := q) v he
    obtain ⟨hlp, vp⟩ := loose_pass v
    have hle := (leave_law v).1
    have hlx := (leave_law vw).1
    obtain ⟨n, hn5⟩ : ∃ n : Nat, r.houses = n := ⟨r.houses.toNat, by omega⟩
    have hn0 : 0 < n := by omega
    have hml := Nat.mod_lt s (show 0 < r.start.length by omega)
    have hmq := Nat.mod_lt a hn0
    obtain ⟨b, hyb, hyc⟩ := next_house (a := a % n) hn5 hn0
    refine awp_skip ?_
    refine aend_then ?_
    refine awp_seq ?_
    refine awp_join_on (e := .normal) (ι := Nat × Nat) (fun x => (13, true, .val (.pointer (some ⟨x.1, 0, none⟩))) :: (14, true, .val (.pointer (some ⟨x.2, 0, none⟩))) :: anys [38, 39]) (fun x => [(13, .box x.1 26 [.d (.int .i64 r.houses), .d (ints r.start), .d (entsD r.entries), .d (sightsD r.sights)]), (14, .box x.2 26 [.d (.int .i64 r.houses), .d (ints r.start), .d (entsD r.entries), .d (sightsD r.sights)])]) (fun hJ1 => ?_) ?_
    · skip
      refine d_start (W := fun b => b ≠ b6) fmo ?_
      refine d1q (i := 0) rfl (by kernel_rfl) (fun _ _ _ _ h => h) rfl rfl hn rfl (q_loadAd rfl rfl (id := 6) rfl Try.underlying26 rfl sz26 rfl rfl (seesA (by simp))) ?_
      refine d1q (i := 1) rfl (by kernel_rfl) (fun _ _ _ _ h => h) rfl rfl hn rfl (q_loadAd rfl rfl (id := 6) rfl Try.underlying26 rfl sz26 rfl rfl (seesA (by simp))) ?_
      refine d1_of_d2 ?_
      refine d2_all 2 [3] (by kernel_rfl) ⟨?_, ?_, trivial⟩
      · skip
        refine br rfl (s_alloc 13 rfl rfl rfl (nb hn rfl) zr26 rfl rfl) fun b13 => ?_
        refine d2_of_d1 ?_
        refine d1_of_d2 ?_
        refine d2_one (i := 3) (by kernel_rfl) rfl (s_alloc 14 rfl rfl rfl (nb hn rfl) zr26 rfl rfl) fun b14 => ?_
        refine d2_of_d1 ?_
        refine d1_of_d2 ?_
        refine g_ne_d2 (i := 13) (j := 6) rfl rfl rfl (fun hne13_6 => ?_)
        refine d2_one (i := 4) (by kernel_rfl) rfl (s_store rfl rfl rfl rfl rfl rfl (id := 13) rfl sz26 rfl (Nat.le_of_ble_eq_true rfl) rfl (fun e => hne13_6 _ rfl (congrArg some e.symm))) fun _ => ?_
        refine d2_of_d1 ?_
        refine d1_of_d2 ?_
        refine g_ne_d2 (i := 14) (j := 6) rfl rfl rfl (fun hne14_6 => ?_)
        refine d2_one (i := 5) (by kernel_rfl) rfl (s_store rfl rfl rfl rfl rfl rfl (id := 14) rfl sz26 rfl (Nat.le_of_ble_eq_true rfl) rfl (fun e => hne14_6 _ rfl (congrArg some e.symm))) fun _ => ?_
        refine d2_of_d1 ?_
        refine d1_of_d2 ?_
        refine d2_done (by kernel_rfl) ?_
        exact aend_join_on hJ1 (b13, b14) ⟨.inl rfl, .inl rfl, holdT_anys _⟩ ⟨.inl rfl, .inl rfl, trivial⟩ (by repeat (first | exact kr _ | refine kc rfl ?_)) (by repeat (first | exact kr _ | refine kc rfl ?_))
      · skip
        refine br rfl (s_alloc 14 rfl rfl rfl (nb hn rfl) zr26 rfl rfl) fun b14 => ?_
        refine d2_of_d1 ?_
        refine d1_of_d2 ?_
        refine d2_one (i := 2) (by kernel_rfl) rfl (s_alloc 13 rfl rfl rfl (nb hn rfl) zr26 rfl rfl) fun b13 => ?_
        refine d2_of_d1 ?_
        refine d1_of_d2 ?_
        refine g_ne_d2 (i := 13) (j := 6) rfl rfl rfl (fun hne13_6 => ?_)
        refine d2_one (i := 4) (by kernel_rfl) rfl (s_store rfl rfl rfl rfl rfl rfl (id := 13) rfl sz26 rfl (Nat.le_of_ble_eq_true rfl) rfl (fun e => hne13_6 _ rfl (congrArg some e.symm))) fun _ => ?_
        refine d2_of_d1 ?_
        refine d1_of_d2 ?_
        refine g_ne_d2 (i := 14) (j := 6) rfl rfl rfl (fun hne14_6 => ?_)
        refine d2_one (i := 5) (by kernel_rfl) rfl (s_store rfl rfl rfl rfl rfl rfl (id := 14) rfl sz26 rfl (Nat.le_of_ble_eq_true rfl) rfl (fun e => hne14_6 _ rfl (congrArg some e.symm))) fun _ => ?_
        refine d2_of_d1 ?_
        refine d1_of_d2 ?_
        refine d2_done (by kernel_rfl) ?_
        exact aend_join_on hJ1 (b13, b14) ⟨.inl rfl, .inl rfl, holdT_anys _⟩ ⟨.inl rfl, .inl rfl, trivial⟩ (by repeat (first | exact kr _ | refine kc rfl ?_)) (by repeat (first | exact kr _ | refine kc rfl ?_))
    · rintro ⟨b13, b14⟩
      dsimp only
      refine aend_then ?_
      refine awp_seq ?_
      refine awp_join_on (e := .normal) (ι := {x : (Nat × Nat) × Nat × Nat // r.entries.length ≤ x.1.2 ∧ x.1.2 ≤ maxLen ∧ r.entries.length ≤ x.2.2 ∧ x.2.2 ≤ maxLen}) (fun x => anys [40, 41, 42, 43, 44, 45, 46, 47, 48, 49]) (fun x => [(13, .box b13 26 [.d (.int .i64 r.houses), .d (ints r.start), .val (.slice (some ⟨x.1.1.1, 0, none⟩) r.entries.length x.1.1.2), .d (sightsD r.sights)]), (14, .box b14 26 [.d (.int .i64 r.houses), .d (ints r.start), .val (.slice (some ⟨x.1.2.1, 0, none⟩) r.entries.length x.1.2.2), .d (sightsD r.sights)]), (43, .box x.1.1.1 67 (cells6 r.entries ++ List.replicate ((x.1.1.2 - r.entries.length) * 6) .any)), (47, .box x.1.2.1 67 (cells6 r.entries ++ List.replicate ((x.1.2.2 - r.entries.length) * 6) .any))]) (fun hJ2 => ?_) ?_
      · skip
        refine d_start (W := fun b => b ≠ b6) fmo ?_
        refine d1q (i := 1) rfl (by kernel_rfl) (fun _ _ _ _ h => h) rfl rfl hn rfl (q_fieldAddr rfl rfl Try.underlying26 rfl sz23) ?_
        refine d1q (i := 2) rfl (by kernel_rfl) (fun _ _ _ _ h => h) rfl rfl hn rfl (q_load rfl rfl (id := 6) rfl Try.underlying23 rfl rfl (seesA (by simp))) ?_
        refine d1q (i := 5) rfl (by kernel_rfl) (fun _ _ _ _ h => h) rfl rfl hn rfl (q_fieldAddr rfl rfl Try.underlying26 rfl sz23) ?_
        refine d1q (i := 6) rfl (by kernel_rfl) (fun _ _ _ _ h => h) rfl rfl hn rfl (q_load rfl rfl (id := 6) rfl Try.underlying23 rfl rfl (seesA (by simp))) ?_
        refine d1_of_d2 ?_
        refine d2_all 0 [4] (by kernel_rfl) ⟨?_, ?_, trivial⟩
        · skip
          refine br rfl (s_buildVec 43 rfl rfl rfl (nb hn rfl) Try.underlying23 sz67 zr67 rfl rfl (show _ = [] from by kernel_rfl) (by kernel_rfl) rfl rfl) fun b40 => ?_
          refine d2_of_d1 ?_
          refine d1_of_d2 ?_
          refine g_ne_d2 (i := 43) (j := 6) rfl rfl rfl (fun hne43_6 => ?_)
          refine d2_all 3 [4] (by kernel_rfl) ⟨?_, ?_, trivial⟩
          · skip
            refine br rfl (s_appendV (id := 43) rfl rfl rfl (nb hn rfl) elt23 zr67 rfl (vec0 b40 6) rfl rfl rfl (by simp; omega) (by simp; omega) (fun b hb => (fun e => hne43_6 _ hb (congrArg some e.symm)))) fun ⟨v43, hV43⟩ => ?_
            obtain ⟨bv, cv, rfl, hcv, hcm⟩ := vec6 hV43 hel
            refine d2_of_d1 ?_
            refine d1q (i := 8) rfl (by kernel_rfl) (fun _ _ _ _ h => h) rfl rfl hn rfl (q_fieldAddr rfl rfl Try.underlying26 rfl sz23) ?_
            refine d1_of_d2 ?_
            refine d2_one (i := 4) (by kernel_rfl) rfl (s_buildVec 47 rfl rfl rfl (nb hn rfl) Try.underlying23 sz67 zr67 rfl rfl (show _ = [] from by kernel_rfl) (by kernel_rfl) rfl rfl) fun b44 => ?_
            refine d2_of_d1 ?_
            refine d1_of_d2 ?_
            refine g_ne_d2 (i := 47) (j := 6) rfl rfl rfl (fun hne47_6 => ?_)
            refine d2_one (i := 7) (by kernel_rfl) rfl (s_appendV (id := 47) rfl rfl rfl (nb hn rfl) elt23 zr67 rfl (vec0 b44 6) rfl rfl rfl (by simp; omega) (by simp; omega) (fun b hb => (fun e => hne47_6 _ hb (congrArg some e.symm)))) fun ⟨v47, hV47⟩ => ?_
            obtain ⟨bw, cw, rfl, hcw, hcn⟩ := vec6 hV47 hel
            refine d2_of_d1 ?_
            refine d1_of_d2 ?_
            refine g_ne_d2 (i := 13) (j := 6) rfl rfl rfl (fun hne13_6 => ?_)
            refine d2_one (i := 9) (by kernel_rfl) rfl (s_store1 rfl rfl rfl rfl rfl rfl (id := 13) rfl sz23 (Nat.le_of_ble_eq_true rfl) rfl (fun e => hne13_6 _ rfl (congrArg some e.symm))) fun _ => ?_
            refine d2_of_d1 ?_
            refine d1q (i := 10) rfl (by kernel_rfl) (fun _ _ _ _ h => h) rfl rfl hn rfl (q_fieldAddr rfl rfl Try.underlying26 rfl sz23) ?_
            refine d1_of_d2 ?_
            refine g_ne_d2 (i := 14) (j := 6) rfl rfl rfl (fun hne14_6 => ?_)
            refine d2_one (i := 11) (by kernel_rfl) rfl (s_store1 rfl rfl rfl rfl rfl rfl (id := 14) rfl sz23 (Nat.le_of_ble_eq_true rfl) rfl (fun e => hne14_6 _ rfl (congrArg some e.symm))) fun _ => ?_
            refine d2_of_d1 ?_
            refine d1_of_d2 ?_
            refine d2_done (by kernel_rfl) ?_
            exact aend_join_on hJ2 ⟨((bv, cv), bw, cw), hcv, hcm, hcw, hcn⟩ (holdT_anys _) ⟨.inl rfl, .inl rfl, .inl rfl, .inl rfl, trivial⟩ (by repeat (first | exact kr _ | refine kc rfl ?_)) (by repeat (first | exact kr _ | refine kc rfl ?_))
          · skip
            refine br rfl (s_buildVec 47 rfl rfl rfl (nb hn rfl) Try.underlying23 sz67 zr67 rfl rfl (show _ = [] from by kernel_rfl) (by kernel_rfl) rfl rfl) fun b44 => ?_
            refine d2_of_d1 ?_
            refine d1_of_d2 ?_
            refine g_ne_d2 (i := 43) (j := 6) rfl rfl rfl (fun hne43_6 => ?_)
            refine d2_one (i := 3) (by kernel_rfl) rfl (s_appendV (id := 43) rfl rfl rfl (nb hn rfl) elt23 zr67 rfl (vec0 b40 6) rfl rfl rfl (by simp; omega) (by simp; omega) (fun b hb => (fun e => hne43_6 _ hb (congrArg some e.symm)))) fun ⟨v43, hV43⟩ => ?_
            obtain ⟨bv, cv, rfl, hcv, hcm⟩ := vec6 hV43 hel
            refine d2_of_d1 ?_
            refine d1q (i := 8) rfl (by kernel_rfl) (fun _ _ _ _ h => h) rfl rfl hn rfl (q_fieldAddr rfl rfl Try.underlying26 rfl sz23) ?_
            refine d1_of_d2 ?_
            refine g_ne_d2 (i := 47) (j := 6) rfl rfl rfl (fun hne47_6 => ?_)
            refine d2_one (i := 7) (by kernel_rfl) rfl (s_appendV (id := 47) rfl rfl rfl (nb hn rfl) elt23 zr67 rfl (vec0 b44 6) rfl rfl rfl (by simp; omega) (by simp; omega) (fun b hb => (fun e => hne47_6 _ hb (congrArg some e.symm)))) fun ⟨v47, hV47⟩ => ?_
            obtain ⟨bw, cw, rfl, hcw, hcn⟩ := vec6 hV47 hel
            refine d2_of_d1 ?_
            refine d1_of_d2 ?_
            refine g_ne_d2 (i := 13) (j := 6) rfl rfl rfl (fun hne13_6 => ?_)
            refine d2_one (i := 9) (by kernel_rfl) rfl (s_store1 rfl rfl rfl rfl rfl rfl (id := 13) rfl sz23 (Nat.le_of_ble_eq_true rfl) rfl (fun e => hne13_6 _ rfl (congrArg some e.symm))) fun _ => ?_
            refine d2_of_d1 ?_
            refine d1q (i := 10) rfl (by kernel_rfl) (fun _ _ _ _ h => h) rfl rfl hn rfl (q_fieldAddr rfl rfl Try.underlying26 rfl sz23) ?_
            refine d1_of_d2 ?_
            refine g_ne_d2 (i := 14) (j := 6) rfl rfl rfl (fun hne14_6 => ?_)
            refine d2_one (i := 11) (by kernel_rfl) rfl (s_store1 rfl rfl rfl rfl rfl rfl (id := 14) rfl sz23 (Nat.le_of_ble_eq_true rfl) rfl (fun e => hne14_6 _ rfl (congrArg some e.symm))) fun _ => ?_
            refine d2_of_d1 ?_
            refine d1_of_d2 ?_
            refine d2_done (by kernel_rfl) ?_
            exact aend_join_on hJ2 ⟨((bv, cv), bw, cw), hcv, hcm, hcw, hcn⟩ (holdT_anys _) ⟨.inl rfl, .inl rfl, .inl rfl, .inl rfl, trivial⟩ (by repeat (first | exact kr _ | refine kc rfl ?_)) (by repeat (first | exact kr _ | refine kc rfl ?_))
        · skip
          refine br rfl (s_buildVec 47 rfl rfl rfl (nb hn rfl) Try.underlying23 sz67 zr67 rfl rfl (show _ = [] from by kernel_rfl) (by kernel_rfl) rfl rfl) fun b44 => ?_
          refine d2_of_d1 ?_
          refine d1_of_d2 ?_
          refine d2_one (i := 0) (by kernel_rfl) rfl (s_buildVec 43 rfl rfl rfl (nb hn rfl) Try.underlying23 sz67 zr67 rfl rfl (show _ = [] from by kernel_rfl) (by kernel_rfl) rfl rfl) fun b40 => ?_
          refine d2_of_d1 ?_
          refine d1_of_d2 ?_
          refine g_ne_d2 (i := 43) (j := 6) rfl rfl rfl (fun hne43_6 => ?_)
          refine d2_one (i := 3) (by kernel_rfl) rfl (s_appendV (id := 43) rfl rfl rfl (nb hn rfl) elt23 zr67 rfl (vec0 b40 6) rfl rfl rfl (by simp; omega) (by simp; omega) (fun b hb => (fun e => hne43_6 _ hb (congrArg some e.symm)))) fun ⟨v43, hV43⟩ => ?_
          obtain ⟨bv, cv, rfl, hcv, hcm⟩ := vec6 hV43 hel
          refine d2_of_d1 ?_
          refine d1q (i := 8) rfl (by kernel_rfl) (fun _ _ _ _ h => h) rfl rfl hn rfl (q_fieldAddr rfl rfl Try.underlying26 rfl sz23) ?_
          refine d1_of_d2 ?_
          refine g_ne_d2 (i := 47) (j := 6) rfl rfl rfl (fun hne47_6 => ?_)
          refine d2_one (i := 7) (by kernel_rfl) rfl (s_appendV (id := 47) rfl rfl rfl (nb hn rfl) elt23 zr67 rfl (vec0 b44 6) rfl rfl rfl (by simp; omega) (by simp; omega) (fun b hb => (fun e => hne47_6 _ hb (congrArg some e.symm)))) fun ⟨v47, hV47⟩ => ?_
          obtain ⟨bw, cw, rfl, hcw, hcn⟩ := vec6 hV47 hel
          refine d2_of_d1 ?_
          refine d1_of_d2 ?_
          refine g_ne_d2 (i := 13) (j := 6) rfl rfl rfl (fun hne13_6 => ?_)
          refine d2_one (i := 9) (by kernel_rfl) rfl (s_store1 rfl rfl rfl rfl rfl rfl (id := 13) rfl sz23 (Nat.le_of_ble_eq_true rfl) rfl (fun e => hne13_6 _ rfl (congrArg some e.symm))) fun _ => ?_
          refine d2_of_d1 ?_
          refine d1q (i := 10) rfl (by kernel_rfl) (fun _ _ _ _ h => h) rfl rfl hn rfl (q_fieldAddr rfl rfl Try.underlying26 rfl sz23) ?_
          refine d1_of_d2 ?_
          refine g_ne_d2 (i := 14) (j := 6) rfl rfl rfl (fun hne14_6 => ?_)
          refine d2_one (i := 11) (by kernel_rfl) rfl (s_store1 rfl rfl rfl rfl rfl rfl (id := 14) rfl sz23 (Nat.le_of_ble_eq_true rfl) rfl (fun e => hne14_6 _ rfl (congrArg some e.symm))) fun _ => ?_
          refine d2_of_d1 ?_
          refine d1_of_d2 ?_
          refine d2_done (by kernel_rfl) ?_
          exact aend_join_on hJ2 ⟨((bv, cv), bw, cw), hcv, hcm, hcw, hcn⟩ (holdT_anys _) ⟨.inl rfl, .inl rfl, .inl rfl, .inl rfl, trivial⟩ (by repeat (first | exact kr _ | refine kc rfl ?_)) (by repeat (first | exact kr _ | refine kc rfl ?_))
      · rintro ⟨⟨⟨bv, cv⟩, bw, cw⟩, hcv, hcm, hcw, hcn⟩
        dsimp only
        dsimp only at hcv hcm hcw hcn
        refine aend_then ?_
        refine awp_seq ?_
        refine d_start (W := fun b => b ≠ b6 ∧ b ≠ b13) fmo ?_
        refine d1q (i := 0) rfl (by kernel_rfl) (fun _ _ _ _ h => h) rfl rfl hn rfl (q_fieldAddr rfl rfl Try.underlying26 rfl sz23) ?_
        refine d1q (i := 1) rfl (by kernel_rfl) (fun _ _ _ _ h => h) rfl rfl hn rfl (q_load rfl rfl (id := 13) rfl Try.underlying23 rfl rfl (seesA (by simp))) ?_
        refine d1q (i := 2) rfl (by kernel_rfl) (fun _ _ _ _ h => h) rfl rfl hn rfl (q_move rfl rfl) ?_
        refine d1q (i := 3) rfl (by kernel_rfl) (fun _ _ _ _ h => h) rfl rfl hn rfl (q_conv rfl rfl Try.underlying5 Try.underlying3 (r := (p : Int)) (i64w (by omega) rfl)) ?_
        refine d1q (i := 4) rfl (by kernel_rfl) (fun _ _ _ _ h => h) rfl rfl hn rfl (q_fieldAddr rfl rfl Try.underlying26 rfl sz23) ?_
        refine d1q (i := 5) rfl (by kernel_rfl) (fun _ _ _ _ h => h) rfl rfl hn rfl (q_load rfl rfl (id := 6) rfl Try.underlying23 rfl rfl (seesA (by simp))) ?_
        refine d1q (i := 6) rfl (by kernel_rfl) (fun _ _ _ _ h => h) rfl rfl hn rfl (q_len rfl rfl Try.underlying23) ?_
        refine d1q (i := 7) rfl (by kernel_rfl) (fun _ _ _ _ h => h) rfl rfl hn rfl (q_rem rfl rfl rfl (r := ((j : Nat) : Int)) (by simp only [List.length_map]; omega) (by simp only [List.length_map]; rw [← hjd]; exact modN hel)) ?_
        refine d1q (i := 8) rfl (by kernel_rfl) (fun _ _ _ _ h => h) rfl rfl hn rfl (q_indexV (i := j) rfl rfl rfl Try.underlying23 sz67 rfl hj5) ?_
        refine d1q (i := 9) rfl (by kernel_rfl) (fun _ _ _ _ h => h) rfl rfl hn rfl (q_fieldAddr rfl rfl Try.underlying67 rfl sz49) ?_
        refine d1q (i := 10) rfl (by kernel_rfl) (fun _ _ _ _ h => h) rfl rfl hn rfl (q_assign rfl rfl) ?_
        refine d1_of_d2 ?_
        refine d2_done (by kernel_rfl) ?_
        refine aend_then ?_
        refine awp_seq ?_
        refine awp_join_on (e := .normal) (ι := Unit) (fun x => anys [60, 61, 62, 63, 64, 65, 66, 67, 68, 69, 70, 71, 72, 73, 74, 75, 76, 77, 78, 79, 80, 81, 82, 83, 84]) (fun x => [(43, .box bv 67 (cells6 (r.entries.set j (wideE q e)) ++ List.replicate ((cv - r.entries.length) * 6) .any))]) (fun hJ3 => ?_) ?_
        · skip
          refine d_start (W := fun b => True) fmo ?_
          refine d1q (i := 0) rfl (by kernel_rfl) (fun _ _ _ _ h => h) rfl rfl hn rfl (q_move rfl rfl) ?_
          refine d1q (i := 1) rfl (by kernel_rfl) (fun _ _ _ _ h => h) rfl rfl hn rfl (q_move rfl rfl) ?_
          refine d1q (i := 2) rfl (by kernel_rfl) (fun _ _ _ _ h => h) rfl rfl hn rfl (q_move rfl rfl) ?_
          refine d1q (i := 3) rfl (by kernel_rfl) (fun _ _ _ _ h => h) rfl rfl hn rfl (q_nilCheck rfl rfl) ?_
          refine d1q (i := 4) rfl (by kernel_rfl) (fun _ _ _ _ h => h) rfl rfl hn rfl (q_fieldAddr rfl rfl Try.underlying49 rfl sz3) ?_
          refine d1q (i := 6) rfl (by kernel_rfl) (fun _ _ _ _ h => h) rfl rfl hn rfl (q_move rfl rfl) ?_
          refine d1q (i := 7) rfl (by kernel_rfl) (fun _ _ _ _ h => h) rfl rfl hn rfl (q_conv rfl rfl Try.underlying5 Try.underlying3 (r := (q : Int)) (i64w (by omega) rfl)) ?_
          refine d1q (i := 8) rfl (by kernel_rfl) (fun _ _ _ _ h => h) rfl rfl hn rfl (q_rem rfl rfl rfl (r := ((q % 3 : Nat) : Int)) (by omega) (modN (b := 3) (by omega))) ?_
          refine d1q (i := 11) rfl (by kernel_rfl) (fun _ _ _ _ h => h) rfl rfl hn rfl (q_move rfl rfl) ?_
          refine d1q (i := 12) rfl (by kernel_rfl) (fun _ _ _ _ h => h) rfl rfl hn rfl (q_nilCheck rfl rfl) ?_
          refine d1q (i := 13) rfl (by kernel_rfl) (fun _ _ _ _ h => h) rfl rfl hn rfl (q_fieldAddr rfl rfl Try.underlying49 rfl sz3) ?_
          refine d1q (i := 15) rfl (by kernel_rfl) (fun _ _ _ _ h => h) rfl rfl hn rfl (q_move rfl rfl) ?_
          refine d1q (i := 16) rfl (by kernel_rfl) (fun _ _ _ _ h => h) rfl rfl hn rfl (q_conv rfl rfl Try.underlying5 Try.underlying3 (r := (q : Int)) (i64w (by omega) rfl)) ?_
          refine d1q (i := 17) rfl (by kernel_rfl) (fun _ _ _ _ h => h) rfl rfl hn rfl (q_quo rfl rfl rfl (r := ((q / 3 : Nat) : Int)) (by omega) (quoN (b := 3) (by omega) (by omega))) ?_
          refine d1q (i := 18) rfl (by kernel_rfl) (fun _ _ _ _ h => h) rfl rfl hn rfl (q_rem rfl rfl rfl (r := ((q / 3 % 3 : Nat) : Int)) (by omega) (modN (b := 3) (by omega))) ?_
          refine d1_of_d2 ?_
          refine d2_all 5 [14] (by kernel_rfl) ⟨?_, ?_, trivial⟩
          · skip
            refine br rfl (quiet_wg _ [] (guard_none rfl) rfl (nb hn rfl) (fun _ => trivial) (fun _ => q_load rfl rfl (id := 43) rfl Try.underlying3 rfl (c6_get (j := 4) he (by show 0 + j * 6 + 4 + 0 = j * 6 + 4; omega) rfl) sees0)) fun _ => ?_
            refine d2_of_d1 ?_
            refine d1q (i := 9) rfl (by kernel_rfl) (fun _ _ _ _ h => h) rfl rfl hn rfl (q_sub rfl rfl rfl (r := e.lo - ((q % 3 : Nat) : Int)) (i64w (by omega) rfl)) ?_
            refine d1q (i := 10) rfl (by kernel_rfl) (fun _ _ _ _ h => h) rfl rfl hn rfl (q_max rfl rfl rfl) ?_
            refine d1_of_d2 ?_
            refine d2_one (i := 14) (by kernel_rfl) rfl (quiet_wg _ [] (guard_none rfl) rfl (nb hn rfl) (fun _ => trivial) (fun _ => q_load rfl rfl (id := 43) rfl Try.underlying3 rfl (c6_get (j := 5) he (by show 0 + j * 6 + 4 + 1 = j * 6 + 5; omega) rfl) sees0)) fun _ => ?_
            refine d2_of_d1 ?_
            refine d1q (i := 19) rfl (by kernel_rfl) (fun _ _ _ _ h => h) rfl rfl hn rfl (q_add rfl rfl rfl (r := e.hi + ((q / 3 % 3 : Nat) : Int)) (i64w (by omega) rfl)) ?_
            refine d1q (i := 20) rfl (by kernel_rfl) (fun _ _ _ _ h => h) rfl rfl hn rfl (q_min rfl rfl rfl) ?_
            refine d1q (i := 21) rfl (by kernel_rfl) (fun _ _ _ _ h => h) rfl rfl hn rfl (q_nilCheck rfl rfl) ?_
            refine d1q (i := 22) rfl (by kernel_rfl) (fun _ _ _ _ h => h) rfl rfl hn rfl (q_fieldAddr rfl rfl Try.underlying49 rfl sz3) ?_
            refine d1_of_d2 ?_
            refine d2_one (i := 23) (by kernel_rfl) rfl (s_store1 rfl rfl rfl rfl rfl rfl (id := 43) rfl sz3 (by show 0 + j * 6 + 4 + 0 < _; rw [List.length_append, cells6_len]; omega) (c6_set (j := 4) (e' := ⟨e.kind, e.sheet, e.frm, e.to, max 0 (e.lo - ((q % 3 : Nat) : Int)), e.hi⟩) he (by show 0 + j * 6 + 4 + 0 = j * 6 + 4; omega) (by omega) rfl) trivial) fun _ => ?_
            refine d2_of_d1 ?_
            refine d1q (i := 24) rfl (by kernel_rfl) (fun _ _ _ _ h => h) rfl rfl hn rfl (q_nilCheck rfl rfl) ?_
            refine d1q (i := 25) rfl (by kernel_rfl) (fun _ _ _ _ h => h) rfl rfl hn rfl (q_fieldAddr rfl rfl Try.underlying49 rfl sz3) ?_
            refine d1_of_d2 ?_
            refine d2_one (i := 26) (by kernel_rfl) rfl (s_store1 rfl rfl rfl rfl rfl rfl (id := 43) rfl sz3 (by show 0 + j * 6 + 4 + 1 < _; rw [List.length_append, cells6_len, List.length_set]; omega) ((c6_set (j := 5) (e' := wideE q e) (set_get (e' := ⟨e.kind, e.sheet, e.frm, e.to, max 0 (e.lo - ((q % 3 : Nat) : Int)), e.hi⟩) he) (by show 0 + j * 6 + 4 + 1 = j * 6 + 5; omega) (by omega) rfl).trans (by rw [List.set_set])) trivial) fun _ => ?_
            refine d2_of_d1 ?_
            refine d1_of_d2 ?_
            refine d2_done (by kernel_rfl) ?_
            exact aend_join_on hJ3 () (holdT_anys _) ⟨.inl rfl, trivial⟩ (by repeat (first | exact kr _ | refine kc rfl ?_)) (by repeat (first | exact kr _ | refine kc rfl ?_))
          · skip
            refine br rfl (quiet_wg _ [] (guard_none rfl) rfl (nb hn rfl) (fun _ => trivial) (fun _ => q_load rfl rfl (id := 43) rfl Try.underlying3 rfl (c6_get (j := 5) he (by show 0 + j * 6 + 4 + 1 = j * 6 + 5; omega) rfl) sees0)) fun _ => ?_
            refine d2_of_d1 ?_
            refine d1q (i := 19) rfl (by kernel_rfl) (fun _ _ _ _ h => h) rfl rfl hn rfl (q_add rfl rfl rfl (r := e.hi + ((q / 3 % 3 : Nat) : Int)) (i64w (by omega) rfl)) ?_
            refine d1q (i := 20) rfl (by kernel_rfl) (fun _ _ _ _ h => h) rfl rfl hn rfl (q_min rfl rfl rfl) ?_
            refine d1_of_d2 ?_
            refine d2_one (i := 5) (by kernel_rfl) rfl (quiet_wg _ [] (guard_none rfl) rfl (nb hn rfl) (fun _ => trivial) (fun _ => q_load rfl rfl (id := 43) rfl Try.underlying3 rfl (c6_get (j := 4) he (by show 0 + j * 6 + 4 + 0 = j * 6 + 4; omega) rfl) sees0)) fun _ => ?_
            refine d2_of_d1 ?_
            refine d1q (i := 9) rfl (by kernel_rfl) (fun _ _ _ _ h => h) rfl rfl hn rfl (q_sub rfl rfl rfl (r := e.lo - ((q % 3 : Nat) : Int)) (i64w (by omega) rfl)) ?_
            refine d1q (i := 10) rfl (by kernel_rfl) (fun _ _ _ _ h => h) rfl rfl hn rfl (q_max rfl rfl rfl) ?_
            refine d1q (i := 21) rfl (by kernel_rfl) (fun _ _ _ _ h => h) rfl rfl hn rfl (q_nilCheck rfl rfl) ?_
            refine d1q (i := 22) rfl (by kernel_rfl) (fun _ _ _ _ h => h) rfl rfl hn rfl (q_fieldAddr rfl rfl Try.underlying49 rfl sz3) ?_
            refine d1_of_d2 ?_
            refine d2_one (i := 23) (by kernel_rfl) rfl (s_store1 rfl rfl rfl rfl rfl rfl (id := 43) rfl sz3 (by show 0 + j * 6 + 4 + 0 < _; rw [List.length_append, cells6_len]; omega) (c6_set (j := 4) (e' := ⟨e.kind, e.sheet, e.frm, e.to, max 0 (e.lo - ((q % 3 : Nat) : Int)), e.hi⟩) he (by show 0 + j * 6 + 4 + 0 = j * 6 + 4; omega) (by omega) rfl) trivial) fun _ => ?_
            refine d2_of_d1 ?_
            refine d1q (i := 24) rfl (by kernel_rfl) (fun _ _ _ _ h => h) rfl rfl hn rfl (q_nilCheck rfl rfl) ?_
            refine d1q (i := 25) rfl (by kernel_rfl) (fun _ _ _ _ h => h) rfl rfl hn rfl (q_fieldAddr rfl rfl Try.underlying49 rfl sz3) ?_
            refine d1_of_d2 ?_
            refine d2_one (i := 26) (by kernel_rfl) rfl (s_store1 rfl rfl rfl rfl rfl rfl (id := 43) rfl sz3 (by show 0 + j * 6 + 4 + 1 < _; rw [List.length_append, cells6_len, List.length_set]; omega) ((c6_set (j := 5) (e' := wideE q e) (set_get (e' := ⟨e.kind, e.sheet, e.frm, e.to, max 0 (e.lo - ((q % 3 : Nat) : Int)), e.hi⟩) he) (by show 0 + j * 6 + 4 + 1 = j * 6 + 5; omega) (by omega) rfl).trans (by rw [List.set_set])) trivial) fun _ => ?_
            refine d2_of_d1 ?_
            refine d1_of_d2 ?_
            refine d2_done (by kernel_rfl) ?_
            exact aend_join_on hJ3 () (holdT_anys _) ⟨.inl rfl, trivial⟩ (by repeat (first | exact kr _ | refine kc rfl ?_)) (by repeat (first | exact kr _ | refine kc rfl ?_))
        · rintro _
          refine aend_then ?_
          refine awp_seq ?_
          refine awp_seq ?_
          refine awp_region ?_
          refine sq rfl rfl hn rfl (q_assign rfl rfl) ?_
          refine run_nil ?_
          refine aend_then ?_
          refine awp_block ?_
          refine awp_loop_on (ι := {i : Nat // i ≤ r.entries.length}) (fun x => (16, true, .d (.int .i64 (x.1 : Nat))) :: anys [85, 86, 87, 88, 89, 92, 93, 94, 95, 96, 97, 98, 99, 100, 101, 102, 103, 90, 91]) (fun x => [(47, .box bw 67 (cells6 ((r.entries.take x.1).map passE ++ r.entries.drop x.1) ++ List.replicate ((cw - r.entries.length) * 6) .any))]) (fun x => r.entries.length - x.1) ⟨0, Nat.zero_le _⟩ ⟨.inl rfl, holdT_anys _⟩ ⟨.inl rfl, trivial⟩ ?_
          rintro ⟨i, hi⟩
          dsimp only
          refine awp_seq ?_
          refine awp_seq ?_
          refine awp_region ?_
          refine sq rfl rfl hn rfl (q_move rfl rfl) ?_
          refine sq rfl rfl hn rfl (q_fieldAddr rfl rfl Try.underlying26 rfl sz23) ?_
          refine sq rfl rfl hn rfl (q_load rfl rfl (id := 14) rfl Try.underlying23 rfl rfl sees0) ?_
          refine sq rfl rfl hn rfl (q_lenV rfl rfl Try.underlying23) ?_
          refine sq rfl rfl hn rfl (q_lss rfl rfl rfl) ?_
          refine run_nil ?_
          refine aend_then ?_
          refine awp_cond rfl (fun hb4 => ?_) (fun hb4 => ?_)
          · skip
            have hlt : i < r.entries.length := by simp at hb4; omega
            obtain ⟨e2, he2⟩ := ex_get hlt
            have hp2 := pass_get he2
            refine awp_skip ?_
            refine aend_then ?_
            refine awp_seq ?_
            refine awp_block ?_
            refine awp_seq ?_
            refine awp_region ?_
            refine sq rfl rfl hn rfl (q_fieldAddr rfl rfl Try.underlying26 rfl sz23) ?_
            refine sq rfl rfl hn rfl (q_load rfl rfl (id := 14) rfl Try.underlying23 rfl rfl sees0) ?_
            refine sq rfl rfl hn rfl (q_move rfl rfl) ?_
            refine sq rfl rfl hn rfl (q_indexV (i := i) rfl rfl rfl Try.underlying23 sz67 rfl hlt) ?_
            refine sq rfl rfl hn rfl (q_fieldAddr rfl rfl Try.underlying67 rfl sz3) ?_
            refine sq rfl rfl hn rfl (q_load rfl rfl (id := 47) rfl Try.underlying3 rfl (c6_get (j := 0) hp2 (by show 0 + i * 6 + 0 = i * 6 + 0; omega) rfl) sees0) ?_
            refine sq rfl rfl hn rfl (q_eql rfl rfl rfl) ?_
            refine run_nil ?_
            refine aend_then ?_
            refine awp_cond rfl (fun hb5 => ?_) (fun hb5 => ?_)
            · skip
              have hk2 : e2.kind = 2 := by simpa using hb5
              refine awp_region ?_
              refine sq rfl rfl hn rfl (q_fieldAddr rfl rfl Try.underlying26 rfl sz23) ?_
              refine sq rfl rfl hn rfl (q_load rfl rfl (id := 14) rfl Try.underlying23 rfl rfl sees0) ?_
              refine sq rfl rfl hn rfl (q_move rfl rfl) ?_
              refine sq rfl rfl hn rfl (q_indexV (i := i) rfl rfl rfl Try.underlying23 sz67 rfl hlt) ?_
              refine sq rfl rfl hn rfl (q_fieldAddr rfl rfl Try.underlying67 rfl sz3) ?_
              refine stepW (s_store1 rfl rfl rfl rfl rfl rfl (id := 47) rfl sz3 (by show 0 + i * 6 + 0 < _; rw [List.length_append, cells6_len]; simp; omega) ((c6_set (j := 0) (e' := passE e2) hp2 (by show 0 + i * 6 + 0 = i * 6 + 0; omega) (by omega) (pass_ent hk2)).trans (by rw [pass_step he2])) trivial) fun _ => ?_
              refine run_nil ?_
              refine aend_block ?_
              refine aend_then ?_
              refine awp_region ?_
              refine sq rfl rfl hn rfl (q_move rfl rfl) ?_
              refine sq rfl rfl hn rfl (q_add rfl rfl rfl (r := ((i + 1 : Nat) : Int)) (i64w (by omega) (by omega))) ?_
              refine sq rfl rfl hn rfl (q_assign rfl rfl) ?_
              refine run_nil ?_
              exact aend_round_on ⟨i + 1, by omega⟩ ⟨.inl rfl, holdT_anys _⟩ ⟨.inl rfl, trivial⟩ (by simp only; omega) (by repeat (first | exact kr _ | refine kc rfl ?_)) (by repeat (first | exact kr _ | refine kc rfl ?_))
            · skip
              have hk2 : e2.kind ≠ 2 := by simpa using hb5
              refine awp_skip ?_
              refine aend_block ?_
              refine aend_then ?_
              refine awp_region ?_
              refine sq rfl rfl hn rfl (q_move rfl rfl) ?_
              refine sq rfl rfl hn rfl (q_add rfl rfl rfl (r := ((i + 1 : Nat) : Int)) (i64w (by omega) (by omega))) ?_
              refine sq rfl rfl hn rfl (q_assign rfl rfl) ?_
              refine run_nil ?_
              exact aend_round_on ⟨i + 1, by omega⟩ ⟨.inl rfl, holdT_anys _⟩ ⟨.inl (by rw [pass_id he2 hk2]; rfl), trivial⟩ (by simp only; omega) (by repeat (first | exact kr _ | refine kc rfl ?_)) (by repeat (first | exact kr _ | refine kc rfl ?_))
          · skip
            have hie : i = r.entries.length := by simp at hb4; omega
            subst hie
            rw [show (r.entries.take r.entries.length).map passE ++ r.entries.drop r.entries.length = r.entries.map passE by simp]
            refine awp_exit ?_
            refine aend_then_exit ?_
            refine aend_then_exit ?_
            refine aend_block_exit ?_
            refine aend_then ?_
            refine awp_seq ?_
            refine gh_awp (gh_veccell (id := 13) (k := 2) (rid := 43) (ds := ((r.entries.set j (wideE q e)).map entE).flatten) (n := r.entries.length) (sz := 6) rfl rfl rfl rfl (fl6 (by simp)) (chunk6 (by simp)) hcv hcm) ?_
            refine gh_awp (gh_veccell (id := 14) (k := 2) (rid := 47) (ds := ((r.entries.map passE).map entE).flatten) (n := r.entries.length) (sz := 6) rfl rfl rfl rfl (fl6 (by simp)) (chunk6 (by simp)) hcw hcn) ?_
            refine awp_region ?_
            refine sq rfl rfl hn rfl (q_loadAd rfl rfl (id := 6) rfl Try.underlying26 rfl sz26 rfl rfl sees0) ?_
            refine stepW (s_call [] (fun _ => Register_ok r (by have h5 := v.s4; omega) (by have h5 := v.e6; omega) (by have h5 := v.g4; omega)) rfl (guard_none rfl) rfl (nb hn rfl) (fun _ => trivial) rfl rfl (.refl _)) fun _ => ?_
            refine stepW (s_call [] (fun _ => (by have := leave_ok r; rw [hle] at this; exact this)) rfl (guard_none rfl) rfl (nb hn rfl) (fun _ => trivial) rfl rfl (.refl _)) fun _ => ?_
            refine sq rfl rfl hn rfl (q_move rfl rfl) ?_
            refine sq rfl rfl hn rfl (q_extractd rfl rfl rfl) ?_
            refine sq rfl rfl hn rfl (q_extractd rfl rfl rfl) ?_
            refine sq rfl rfl hn rfl (q_assign rfl rfl) ?_
            refine sq rfl rfl hn rfl (q_assign rfl rfl) ?_
            refine run_nil ?_
            refine aend_then ?_
            refine awp_seq ?_
            refine awp_region ?_
            refine sq rfl rfl hn rfl (q_loadAd rfl rfl (id := 13) rfl Try.underlying26 rfl sz26 rfl rfl sees0) ?_
            refine stepW (s_call [] (fun _ => Register_ok (wideR r j q e) (by have h5 := vw.s4; omega) (by have h5 := vw.e6; omega) (by have h5 := vw.g4; omega)) rfl (guard_none rfl) rfl (nb hn rfl) (fun _ => trivial) rfl rfl (.refl _)) fun _ => ?_
            refine stepW (s_call [] (fun _ => (by have := leave_ok (wideR r j q e); rw [hlx] at this; exact this)) rfl (guard_none rfl) rfl (nb hn rfl) (fun _ => trivial) rfl rfl (.refl _)) fun _ => ?_
            refine sq rfl rfl hn rfl (q_move rfl rfl) ?_
            refine sq rfl rfl hn rfl (q_extractd rfl rfl rfl) ?_
            refine sq rfl rfl hn rfl (q_extractd rfl rfl rfl) ?_
            refine sq rfl rfl hn rfl (q_assign rfl rfl) ?_
            refine sq rfl rfl hn rfl (q_assign rfl rfl) ?_
            refine run_nil ?_
            refine aend_then ?_
            refine awp_seq ?_
            refine awp_seq ?_
            refine awp_region ?_
            refine sq rfl rfl hn rfl (q_move rfl rfl) ?_
            refine sq rfl rfl hn rfl (q_neq rfl rfl rfl) ?_
            refine sq rfl rfl hn rfl (q_move rfl rfl) ?_
            refine stepG [] (guard_some rfl rfl rfl) rfl (nb hn rfl) (fun hc => trivial) (fun hc => q_move rfl rfl) ?_
            refine stepG [(119, _)] (guard_some rfl rfl rfl) rfl (nb hn rfl) (fun hc => ⟨⟨_, rfl, hc⟩, trivial⟩) (fun hc => q_neq rfl rfl rfl) ?_
            refine sq rfl rfl hn rfl (q_or rfl rfl rfl (by intro hB; first | (rw [hB]; rfl) | (rw [hB, hc]; rfl) | simp_all)) ?_
            refine sq rfl rfl hn rfl (q_move rfl rfl) ?_
            refine stepG [] (guard_some rfl rfl rfl) rfl (nb hn rfl) (fun hc => trivial) (fun hc => q_move rfl rfl) ?_
            refine stepG [(123, _)] (guard_some rfl rfl rfl) rfl (nb hn rfl) (fun hc => ⟨⟨_, rfl, hc⟩, trivial⟩) (fun hc => q_len rfl rfl Try.underlying22) ?_
            refine stepG [] (guard_some rfl rfl rfl) rfl (nb hn rfl) (fun hc => trivial) (fun hc => q_move rfl rfl) ?_
            refine stepG [(125, _)] (guard_some rfl rfl rfl) rfl (nb hn rfl) (fun hc => ⟨⟨_, rfl, hc⟩, trivial⟩) (fun hc => q_len rfl rfl Try.underlying22) ?_
            refine stepG [(124, _), (126, _)] (guard_some rfl rfl rfl) rfl (nb hn rfl) (fun hc => ⟨⟨_, rfl, hc⟩, ⟨_, rfl, hc⟩, trivial⟩) (fun hc => q_gtr rfl rfl rfl) ?_
            refine sq rfl rfl hn rfl (q_or rfl rfl rfl (by intro hB; first | (rw [hB]; rfl) | (rw [hB, hc]; rfl) | simp_all)) ?_
            refine run_nil ?_
            refine aend_then ?_
            refine awp_cond rfl (fun hb6 => ?_) (fun hb6 => ?_)
            · skip
              exfalso; have hwl2 := wider_leave hlw rfl v vw; simp at hb6; omega
            · skip
              refine awp_skip ?_
              refine aend_then ?_
              refine awp_seq ?_
              refine awp_seq ?_
              refine awp_region ?_
              refine sq rfl rfl hn rfl (q_move rfl rfl) ?_
              refine sq rfl rfl hn rfl (q_len rfl rfl Try.underlying22) ?_
              refine sq rfl rfl hn rfl (q_gtr rfl rfl rfl) ?_
              refine run_nil ?_
              refine aend_then ?_
              refine awp_cond rfl (fun hb7 => ?_) (fun hb7 => ?_)
              · skip
                skip
                refine awp_seq ?_
                refine awp_region ?_
                refine stepW (s_call [] (fun _ => awake_ok) rfl (guard_none rfl) rfl (nb hn rfl) (fun _ => trivial) rfl rfl (.refl _)) fun _ => ?_
                refine sq rfl rfl hn rfl (q_assign rfl rfl) ?_
                refine run_nil ?_
                refine aend_then ?_
                refine awp_ret ?_
                refine aend_then_ret ?_
                exact ret_E (.inl rfl) () (hands_1 rfl (.tmp rfl)) trivial
              · skip
                have hT := (leave_nil v).1 (by simp only [List.length_map, decide_eq_false_iff_not] at hb7; exact List.eq_nil_of_length_eq_zero (by omega))
                have nar := nar_of (N := o % 10) (by omega) v vw hT hlw hsk rfl
                refine awp_skip ?_
                refine aend_then ?_
                refine awp_seq ?_
                refine d_start (W := fun b => b ≠ b6) fmo ?_
                refine d1q (i := 0) rfl (by kernel_rfl) (fun _ _ _ _ h => h) rfl rfl hn rfl (q_move rfl rfl) ?_
                refine d1q (i := 1) rfl (by kernel_rfl) (fun _ _ _ _ h => h) rfl rfl hn rfl (q_conv rfl rfl Try.underlying5 Try.underlying3 (r := (s : Int)) (i64w (by omega) rfl)) ?_
                refine d1q (i := 2) rfl (by kernel_rfl) (fun _ _ _ _ h => h) rfl rfl hn rfl (q_fieldAddr rfl rfl Try.underlying26 rfl sz22) ?_
                refine d1q (i := 3) rfl (by kernel_rfl) (fun _ _ _ _ h => h) rfl rfl hn rfl (q_load rfl rfl (id := 6) rfl Try.underlying22 rfl rfl (seesA (by simp))) ?_
                refine d1q (i := 4) rfl (by kernel_rfl) (fun _ _ _ _ h => h) rfl rfl hn rfl (q_len rfl rfl Try.underlying22) ?_
                refine d1q (i := 5) rfl (by kernel_rfl) (fun _ _ _ _ h => h) rfl rfl hn rfl (q_rem rfl rfl rfl (r := ((s % r.start.length : Nat) : Int)) (by simp only [List.length_map]; omega) (by simp only [List.length_map]; exact modN (by omega))) ?_
                refine d1q (i := 6) rfl (by kernel_rfl) (fun _ _ _ _ h => h) rfl rfl hn rfl (q_move rfl rfl) ?_
                refine d1q (i := 7) rfl (by kernel_rfl) (fun _ _ _ _ h => h) rfl rfl hn rfl (q_conv rfl rfl Try.underlying5 Try.underlying3 (r := (a : Int)) (i64w (by omega) rfl)) ?_
                refine d1q (i := 8) rfl (by kernel_rfl) (fun _ _ _ _ h => h) rfl rfl hn rfl (q_fieldAddr rfl rfl Try.underlying26 rfl sz3) ?_
                refine d1q (i := 9) rfl (by kernel_rfl) (fun _ _ _ _ h => h) rfl rfl hn rfl (q_load rfl rfl (id := 6) rfl Try.underlying3 rfl rfl (seesA (by simp))) ?_
                refine d1q (i := 10) rfl (by kernel_rfl) (fun _ _ _ _ h => h) rfl rfl hn rfl (q_rem rfl rfl rfl (r := ((a % n : Nat) : Int)) (by omega) (by rw [hn5]; exact modN hn0)) ?_
                refine d1q (i := 11) rfl (by kernel_rfl) (fun _ _ _ _ h => h) rfl rfl hn rfl (q_move rfl rfl) ?_
                refine d1q (i := 12) rfl (by kernel_rfl) (fun _ _ _ _ h => h) rfl rfl hn rfl (q_conv rfl rfl Try.underlying5 Try.underlying3 (r := (o : Int)) (i64w (by omega) rfl)) ?_
                refine d1q (i := 13) rfl (by kernel_rfl) (fun _ _ _ _ h => h) rfl rfl hn rfl (q_rem rfl rfl rfl (r := ((o % 10 : Nat) : Int)) (by omega) (modN (b := 10) (by omega))) ?_
                refine d1q (i := 14) rfl (by kernel_rfl) (fun _ _ _ _ h => h) rfl rfl hn rfl (q_assign rfl rfl) ?_
                refine d1q (i := 15) rfl (by kernel_rfl) (fun _ _ _ _ h => h) rfl rfl hn rfl (q_assign rfl rfl) ?_
                refine d1q (i := 16) rfl (by kernel_rfl) (fun _ _ _ _ h => h) rfl rfl hn rfl (q_assign rfl rfl) ?_
                refine d1_of_d2 ?_
                refine d2_done (by kernel_rfl) ?_
                refine aend_then ?_
                refine awp_seq ?_
                refine awp_region ?_
                refine sq rfl rfl hn rfl (q_loadAd rfl rfl (id := 6) rfl Try.underlying26 rfl sz26 rfl rfl sees0) ?_
                refine stepW (s_call [] (fun _ => Register_ok r (by have h5 := v.s4; omega) (by have h5 := v.e6; omega) (by have h5 := v.g4; omega)) rfl (guard_none rfl) rfl (nb hn rfl) (fun _ => trivial) rfl rfl (.refl _)) fun _ => ?_
                refine sq rfl rfl hn rfl (q_move rfl rfl) ?_
                refine sq rfl rfl hn rfl (q_move rfl rfl) ?_
                refine stepW (s_callE (Holders_eff r (s % r.start.length : Nat) (o % 10 : Nat)) rfl rfl rfl (nb hn rfl) (.d rfl) rfl (.refl _) trivial (fun _ => rfl) (fun _ _ => trivial)) fun x1 => ?_
                obtain ⟨he1, hv1_, hne1⟩ := wantE_0 v hT (sheetB_of (by omega) (by omega)) (by omega) x1.2
                rw [he1]
                refine sq rfl rfl hn rfl (q_move rfl rfl) ?_
                refine sq rfl rfl hn rfl (q_extractd rfl rfl rfl) ?_
                refine sq rfl rfl hn rfl (q_extractd rfl rfl rfl) ?_
                refine sq rfl rfl hn rfl (q_assign rfl rfl) ?_
                refine sq rfl rfl hn rfl (q_assign rfl rfl) ?_
                refine run_nil ?_
                refine aend_then ?_
                refine awp_seq ?_
                refine awp_region ?_
                refine sq rfl rfl hn rfl (q_loadAd rfl rfl (id := 14) rfl Try.underlying26 rfl sz26 rfl rfl sees0) ?_
                refine stepW (s_call [] (fun _ => Register_ok (passR r) (by have h5 := vp.s4; omega) (by have h5 := vp.e6; omega) (by have h5 := vp.g4; omega)) rfl (guard_none rfl) rfl (nb hn rfl) (fun _ => trivial) rfl rfl (.refl _)) fun _ => ?_
                refine sq rfl rfl hn rfl (q_move rfl rfl) ?_
                refine sq rfl rfl hn rfl (q_move rfl rfl) ?_
                refine stepW (s_callE (Holders_eff (passR r) (s % r.start.length : Nat) (o % 10 : Nat)) rfl rfl rfl (nb hn rfl) (.d rfl) rfl (.refl _) trivial (fun _ => rfl) (fun _ _ => trivial)) fun x2 => ?_
                obtain ⟨he2_, hv2_, hne2⟩ := wantE_0 vp (hlp.has v vp hT) (sheetB_of (r := passR r) (by omega) (by show _ < (r.start.length : Int); omega)) (by omega) x2.2
                rw [he2_]
                have hsub := sub_hold (s := s % r.start.length) hlp v vp (by omega) hv1_ hv2_
                refine sq rfl rfl hn rfl (q_move rfl rfl) ?_
                refine sq rfl rfl hn rfl (q_extractd rfl rfl rfl) ?_
                refine sq rfl rfl hn rfl (q_extractd rfl rfl rfl) ?_
                refine sq rfl rfl hn rfl (q_assign rfl rfl) ?_
                refine sq rfl rfl hn rfl (q_assign rfl rfl) ?_
                refine run_nil ?_
                refine aend_then ?_
                refine awp_seq ?_
                refine awp_region ?_
                refine sq rfl rfl hn rfl (q_loadAd rfl rfl (id := 6) rfl Try.underlying26 rfl sz26 rfl rfl sees0) ?_
                refine sq rfl rfl hn rfl (q_loadAd rfl rfl (id := 13) rfl Try.underlying26 rfl sz26 rfl rfl sees0) ?_
                refine sq rfl rfl hn rfl (q_move rfl rfl) ?_
                refine sq rfl rfl hn rfl (q_move rfl rfl) ?_
                refine sq rfl rfl hn rfl (q_move rfl rfl) ?_
                refine stepW (s_call [] (fun _ => (PureAt.of_eff (ds := [_, _, .int .i64 _, .int .i64 _, .int .i64 _]) (Within_eff r (wideR r j q e) (s % r.start.length) (a % n) b (o % 10) nar hml (by show _ < r.houses; rw [hn5]; omega) hyb hyc (by omega)))) rfl (guard_none rfl) rfl (nb hn rfl) (fun _ => trivial) rfl rfl (.refl _)) fun _ => ?_
                refine sq rfl rfl hn rfl (q_move rfl rfl) ?_
                refine stepG [] (guard_some rfl rfl rfl) rfl (nb hn rfl) (fun hc => trivial) (fun hc => q_move rfl rfl) ?_
                refine stepG [(170, _)] (guard_some rfl rfl rfl) rfl (nb hn rfl) (fun hc => ⟨⟨_, rfl, hc⟩, trivial⟩) (fun hc => q_eql rfl rfl rfl) ?_
                refine sq rfl rfl hn rfl (q_and rfl rfl rfl (by intro hB; first | (rw [hB]; rfl) | (rw [hB, hc]; rfl) | simp_all)) ?_
                refine sq rfl rfl hn rfl (q_move rfl rfl) ?_
                refine stepG [] (guard_some rfl rfl rfl) rfl (nb hn rfl) (fun hc => trivial) (fun hc => q_move rfl rfl) ?_
                refine stepG [(174, _)] (guard_some rfl rfl rfl) rfl (nb hn rfl) (fun hc => ⟨⟨_, rfl, hc⟩, trivial⟩) (fun hc => q_eql rfl rfl rfl) ?_
                refine sq rfl rfl hn rfl (q_and rfl rfl rfl (by intro hB; first | (rw [hB]; rfl) | (rw [hB, hc]; rfl) | simp_all)) ?_
                refine sq rfl rfl hn rfl (q_move rfl rfl) ?_
                refine stepG [] (guard_some rfl rfl rfl) rfl (nb hn rfl) (fun hc => trivial) (fun hc => q_move rfl rfl) ?_
                refine stepG [] (guard_some rfl rfl rfl) rfl (nb hn rfl) (fun hc => trivial) (fun hc => q_move rfl rfl) ?_
                refine stepW (s_call [(178, _), (179, _)] (fun hc => subset_ok _ _) rfl (guard_some rfl rfl rfl) rfl (nb hn rfl) (fun hc => ⟨⟨_, rfl, hc⟩, ⟨_, rfl, hc⟩, trivial⟩) rfl rfl (.refl _)) fun _ => ?_
                refine sq rfl rfl hn rfl (q_and rfl rfl rfl (by intro hB; first | (rw [hB]; rfl) | (rw [hB, hc]; rfl) | simp_all)) ?_
                refine sq rfl rfl hn rfl (q_move rfl rfl) ?_
                refine stepW (s_call [] (fun hc => awake_ok) rfl (guard_some rfl rfl rfl) rfl (nb hn rfl) (fun hc => trivial) rfl rfl (.refl _)) fun _ => ?_
                refine sq rfl rfl hn rfl (q_and rfl rfl rfl (by intro hB; first | (rw [hB]; rfl) | (rw [hB, hc]; rfl) | simp_all)) ?_
                refine sq rfl rfl hn rfl (q_assign rfl rfl) ?_
                refine run_nil ?_
                refine aend_then ?_
                refine awp_ret ?_
                exact ret_E (.inl rfl) () ((hands_1 rfl (.tmp rfl)).eq (by rw [hsub]; rfl)) trivial
end Go.Proofs.Ytnbmmopjkkofoaa
