/-
  A part of the proof that contangolaw.ShortNames returns true: what the last text needs, and no more. No condition: no statement of the seat is proved here.
-/
import Derived.Laws.Bits64b
import Derived.Test.YtaokpncjemkhcaaGreatShortNamesF
namespace Go.Proofs.YtaokpncjemkhcaaGreat
open Go.RowKit
set_option maxRecDepth 20000
set_option linter.all false
@[reducible] def intT (n : Int) : TV := .d (.int .i64 n)
theorem bits_one (x : Nat) (hx : x < 18446744073709551616) : bits .and .u64 (x : Int) 1 = ((x % 2 : Nat) : Int) := by
  have := bits_and_u64_nat x 1 hx (by omega)
  rw [show ((1 : Nat) : Int) = 1 from rfl] at this
  rw [this, Nat.and_one_is_mod]
theorem has_bits {d i : Nat} (hd : d < 18446744073709551616) : bits .and .u64 ((d : Int) / 2 ^ ((i : Int)).toNat) 1 = ((d / 2 ^ i % 2 : Nat) : Int) := by
  have : (d : Int) / 2 ^ ((i : Int)).toNat = ((d / 2 ^ i : Nat) : Int) := by simp
  rw [this, bits_one _ (Nat.lt_of_le_of_lt (Nat.div_le_self _ _) hd)]
theorem has_eq {d i : Nat} : (((d / 2 ^ i % 2 : Nat) : Int) == 1) = d.testBit i := by
  rw [Nat.testBit_eq_decide_div_mod_eq]
  generalize d / 2 ^ i % 2 = x
  rw [Bool.eq_iff_iff, beq_iff_eq, decide_eq_true_eq]
  omega
structure Valid (r : Reg) : Prop where
  h1 : 1 ≤ r.houses
  h4 : r.houses ≤ 4
  s1 : 1 ≤ r.start.length
  s4 : r.start.length ≤ 4
  e6 : r.entries.length ≤ 6
  g4 : r.sights.length ≤ 4
  st : ∀ x ∈ r.start, 0 ≤ x ∧ x ≤ r.houses - 1
  en : ∀ e ∈ r.entries, 0 ≤ e.kind ∧ e.kind ≤ 2 ∧ 0 ≤ e.sheet ∧ e.sheet ≤ (r.start.length : Int) - 1 ∧ 0 ≤ e.frm ∧ e.frm ≤ r.houses - 1 ∧ 0 ≤ e.to ∧ e.to ≤ r.houses - 1 ∧ e.frm ≠ e.to ∧ 0 ≤ e.lo ∧ e.lo ≤ e.hi ∧ e.hi ≤ 9
  si : ∀ s ∈ r.sights, 0 ≤ s.sheet ∧ s.sheet ≤ (r.start.length : Int) - 1 ∧ 0 ≤ s.house ∧ s.house ≤ r.houses - 1 ∧ 0 ≤ s.day ∧ s.day ≤ 9
theorem zBK {r : Reg} (h : checkE r = 0) : Valid r := by
  have hl : limB r = false := by cases hl : limB r <;> simp_all [checkE]
  have ha : argB r = false := by cases ha : argB r <;> simp_all [checkE]
  simp only [limB, argB, Bool.or_eq_false_iff, decide_eq_false_iff_not, Int.not_lt, beq_eq_false_iff_ne, ne_eq, Bool.not_eq_false', List.all_eq_true] at hl ha
  obtain ⟨⟨⟨l1, l2⟩, l3⟩, l4⟩ := hl
  obtain ⟨⟨⟨⟨a1, a2⟩, a3⟩, a4⟩, a5⟩ := ha
  have hr1 : 1 ≤ r.houses := by omega
  refine ⟨hr1, l1, by omega, by omega, by omega, by omega, fun x hx => ?_, fun e he => ?_, fun s hs => ?_⟩
  · have := a3 x hx
    rw [yt hr1 l1] at this
    simpa using this
  · have := a4 e he
    simp only [entryB, yt hr1 l1, sheetB, dayB, Bool.and_eq_true, decide_eq_true_eq, bne_iff_ne] at this
    omega
  · have := a5 s hs
    simp only [sightB, yt hr1 l1, sheetB, dayB, Bool.and_eq_true, decide_eq_true_eq] at this
    omega
theorem zBQ {r : Reg} (v : Valid r) : checkE r = 0 := by
  refine checkE_0 ?_ v.h1 ⟨v.h4, fun e => by have := v.s1; simp [e] at this⟩ ?_ ?_ ?_
  · have := v.h4; have := v.s4; have := v.e6; have := v.g4
    simp [limB]
    omega
  · refine List.all_eq_true.2 fun x hx => ?_
    have := v.st x hx
    rw [yt v.h1 v.h4]
    simpa using this
  · refine List.all_eq_true.2 fun e he => ?_
    have := v.en e he
    simp only [entryB, yt v.h1 v.h4, sheetB, dayB, Bool.and_eq_true, decide_eq_true_eq, bne_iff_ne]
    omega
  · refine List.all_eq_true.2 fun s hs => ?_
    have := v.si s hs
    simp only [sightB, yt v.h1 v.h4, sheetB, dayB, Bool.and_eq_true, decide_eq_true_eq]
    omega
def bump (c : List Int) (h x : Int) : List Int := c.set h.toNat (c.getD h.toNat 0 + x)
def comeF (d : Nat) (s : Int) : Nat → List Ent5 → List Int → List Int
  | _, [], c => c
  | k, e :: es, c => comeF d s (k + 1) es (bif d.testBit k && (e.sheet == s) then bump (bump c e.frm (-1)) e.to 1 else c)
def come0 (x : Int) : List Int := bump [0, 0, 0, 0] x 1
def placeOf (r : Reg) (d : Nat) (s : Nat) : Int := idxOf (fun x => (1 : Int) == x) (comeF d s 0 r.entries (come0 (r.start.getD s 0)))
def placeN (r : Reg) (d : Nat) (n j : Nat) : Int := if j < n then placeOf r d j else r.start.getD j 0
def placesL (r : Reg) (d : Nat) (n : Nat) : List Int := (List.range 4).map (placeN r d n)
@[reducible] def intD (n : Int) : D := .int .i64 n
/-- The houses of all four sheets, as an array. -/
def placesA (r : Reg) (d : Nat) : List Int := placesL r d r.start.length
theorem kC (c : List Int) (h x : Int) : (bump c h x).length = c.length := by simp [bump]
theorem zDB {c : List Int} {h x : Int} {m : Int} (hc : ∀ y ∈ c, -m ≤ y ∧ y ≤ m) (h0 : 0 ≤ m) (hx : -1 ≤ x ∧ x ≤ 1) : ∀ y ∈ bump c h x, -(m + 1) ≤ y ∧ y ≤ m + 1 := by
  intro y hy
  rcases List.mem_or_eq_of_mem_set hy with hy | rfl
  · have := hc y hy; omega
  · by_cases hl : h.toNat < c.length
    · have := hc (c.getD h.toNat 0) (by rw [List.getD_eq_getElem?_getD, List.getElem?_eq_getElem hl]; exact List.getElem_mem hl)
      omega
    · rw [List.getD_eq_getElem?_getD, List.getElem?_eq_none (by omega)]
      simp
      omega
theorem at1 {α β : Type} {l : List α} {f : α → β} {i : Nat} {x : α} (h : l[i]? = some x) : (l.map f)[0 + i * 1]? = some (f x) := by simp [h]
theorem set1 {α β : Type} {l : List α} {f : α → β} {i : Nat} {x : α} : (l.map f).set (0 + i * 1) (f x) = (l.set i x).map f := by simp [List.map_set]
theorem zD4 {l : List Int} {i : Nat} {x : Int} (h : l[i]? = some x) : l.getD i 0 = x := by simp [List.getD_eq_getElem?_getD, h]
theorem zAf {α : Type} {l : List α} {i : Nat} {x : α} (h : l[i]? = some x) : l.drop i = x :: l.drop (i + 1) := by
  obtain ⟨hlt, rfl⟩ := List.getElem?_eq_some_iff.1 h
  exact List.drop_eq_getElem_cons hlt
theorem zBn {r : Reg} {d n j : Nat} (h : j < 4) : (placesL r d n)[j]? = some (placeN r d n j) := by simp [placesL, h]
theorem placesL_set {r : Reg} {d n : Nat} (h : n < 4) : (placesL r d n).set n (placeOf r d n) = placesL r d (n + 1) := by
  apply List.ext_getElem?
  intro j
  simp only [placesL, List.getElem?_set, List.length_map, List.length_range, List.getElem?_map]
  by_cases e : n = j
  · subst e; simp [h, placeN]
  · rw [if_neg e]
    by_cases hj : j < 4
    · simp only [List.getElem?_range hj, Option.map_some, placeN]
      by_cases k : j < n
      · rw [if_pos k, if_pos (by omega)]
      · rw [if_neg k, if_neg (by omega)]
    · rw [List.getElem?_eq_none (by simpa using hj)]; rfl
theorem placesL_0 {r : Reg} {d : Nat} (h : r.start.length ≤ 4) : placesL r d 0 = r.start ++ List.replicate (4 - r.start.length) 0 := by
  apply List.ext_getElem?
  intro j
  simp only [placesL, List.getElem?_map]
  by_cases hj : j < 4
  · simp only [List.getElem?_range hj, Option.map_some, placeN, Nat.not_lt_zero, if_false, List.getElem?_append]
    by_cases k : j < r.start.length
    · simp [k, List.getD_eq_getElem?_getD]
    · rw [if_neg k, List.getElem?_replicate, if_pos (by omega), List.getD_eq_getElem?_getD, List.getElem?_eq_none (by omega)]
      rfl
  · rw [List.getElem?_eq_none (by simpa using hj), List.getElem?_eq_none (by simp; omega)]
    rfl
theorem placesL_cur {r : Reg} {d i : Nat} {x : Int} (h : r.start[i]? = some x) (hi : i < 4) : (placesL r d i)[i]? = some x := by
  rw [zBn hi]
  simp [placeN, List.getD_eq_getElem?_getD, h]
theorem copy0 {r : Reg} {d : Nat} {cs : List TV} (h : r.start.length ≤ 4) (hc : cs = List.replicate 4 (intT 0)) : (((r.start.map intE).take 4).flatten.map TV.d) ++ cs.drop (Nat.min (r.start.map intE).length 4) = (placesL r d 0).map intT := by
  subst hc
  rw [placesL_0 h, List.take_of_length_le (by simpa using h), List.length_map, show Nat.min r.start.length 4 = r.start.length from Nat.min_eq_left h, List.map_append, List.map_replicate, List.drop_replicate]
  congr 1
  generalize r.start = l
  induction l with
  | nil => rfl
  | cons x l ih => simp [ih]
theorem zero4 {k : Nat} (h : k < 4) : ([intT 0, intT 0, intT 0, intT 0] : List TV)[0 + k * 1]? = some (intT 0) := by
  rcases k with _ | _ | _ | _ | k <;> first | rfl | omega
theorem set_come0 {x : Int} (h : x.toNat < 4) : ([intT 0, intT 0, intT 0, intT 0] : List TV).set (0 + x.toNat * 1) (intT (0 + 1)) = (come0 x).map intT := by
  unfold come0 bump
  generalize x.toNat = k at h
  rcases k with _ | _ | _ | _ | k <;> first | rfl | omega
theorem zAg {x : Int} : (come0 x).length = 4 := by simp [come0, kC]
theorem come0_bd {x : Int} : ∀ y ∈ come0 x, -(1 : Int) ≤ y ∧ y ≤ 1 := by
  have := zDB (c := [0, 0, 0, 0]) (h := x) (x := 1) (m := 0) (by simp) (by omega) (by omega)
  intro y hy
  have := this y hy
  omega
theorem getD_some {l : List Int} {k : Nat} (h : k < l.length) : l[k]? = some (l.getD k 0) := by
  rw [List.getD_eq_getElem?_getD, List.getElem?_eq_getElem h]
  rfl
theorem zCC {l : List Int} {k : Nat} (h : k < l.length) : l.getD k 0 ∈ l := List.mem_of_getElem? (getD_some h)
theorem zDW : ∀ (l : List Int), allD (l.map intT) = some (l.map intD)
  | [] => rfl
  | x :: l => by simp only [List.map_cons, allD, zDW l]
theorem zAd : ∀ (l : List Int), chunk 1 l.length (l.map intD) = l.map intE
  | [] => rfl
  | x :: l => by simp only [List.length_cons, List.map_cons, chunk, List.take_succ_cons, List.take_zero, List.drop_succ_cons, List.drop_zero, zAd l]
theorem chunk_int4 {l : List Int} (h : l.length = 4) : chunk 1 4 (l.map intD) = l.map intE := h ▸ zAd l
theorem beq_int4 {l : List Int} (h : l.length = 4) : Nat.beq (l.map intD).length (4 * 1) = true := by simp [h]
def openF (d : Nat) (a b : Int) : Nat → List Ent5 → Int → Int
  | _, [], n => n
  | k, e :: es, n => openF d a b (k + 1) es (bif !(d.testBit k) then n else bif (e.kind == 1) && (e.frm == a) && (e.to == b) then n + 1 else bif (e.kind == 2) && (e.frm == b) && (e.to == a) then n - 1 else n)
def openN (r : Reg) (d : Nat) (a b : Int) : Int := openF d a b 0 r.entries 0
theorem sz151 : Sz Tryz.prog 151 4 := (by kernel_rfl : (Tryz.prog.info? 151).map (·.size) = some 4)
theorem zr3 : (Tryz.prog.info? 3).map (·.zero) = some (some (.int .i64 0)) := by kernel_rfl
theorem zr22 : (Tryz.prog.info? 22).map (·.zero) = some (some (.slice none 0 0)) := by kernel_rfl
theorem zr94 : (Tryz.prog.info? 94).map (·.zero) = some (some (.agg #[(.int .i64 0), (.int .i64 0), (.int .i64 0), (.int .i64 0)])) := by kernel_rfl
theorem zr87 : (Tryz.prog.info? 87).map (·.zero) = some (some (.agg #[(.int .i64 0), (.int .i64 0), (.int .i64 0), (.int .i64 0), (.int .i64 0), (.int .i64 0)])) := by kernel_rfl
theorem zr151 : (Tryz.prog.info? 151).map (·.zero) = some (some (.agg #[(.int .i64 0), (.int .i64 0), (.int .i64 0), (.int .i64 0)])) := by kernel_rfl
theorem elt22 : ElT Tryz.prog 22 3 1 8 := zAs Tryz.underlying22 (z := (.int .i64 0)) (by kernel_rfl) rfl (by decide)
theorem zC9 (d i : Nat) (hd : d < 18446744073709551616) (hi : i < 64) : PureAt Tryz.prog 118 [.int .u64 (d : Nat), .int .i64 (i : Nat)] (.bool (d.testBit i)) := by
 refine PureAt.of_awp Tryz.func118 rfl (by kernel_rfl) (Nat.le_of_ble_eq_true rfl) fun Γ hn hl => ?_
 refine zC (zB ?_)
 refine sq rfl rfl hn rfl (zF rfl rfl) ?_
 refine zE (zA (zC (zB ?_)))
 refine sq rfl rfl hn rfl (zG rfl rfl) ?_
 refine sq rfl rfl hn rfl (zG rfl rfl) ?_
 refine sq rfl rfl hn rfl (q_shr rfl rfl rfl (by omega) (by simp [IntKind.bits]; omega)) ?_
 refine sq rfl rfl hn rfl (q_bitand rfl rfl rfl (has_bits hd)) ?_
 refine sq rfl rfl hn rfl (yG rfl rfl rfl) ?_
 refine sq rfl rfl hn rfl (zF rfl rfl) ?_
 refine zE (zA (zO ?_))
 refine zp (zt (.inl rfl) hl rfl (.tmp rfl)) ?_
 rw [has_eq]
theorem Index_ok (l : List Int) (n : Int) : PureAt Tryz.prog 119 [ints l, .int .i64 n] (.int .i64 (idxOf (fun x => n == x) l)) := by
 refine PureAt.of_awp' Tryz.func119 rfl (by kernel_rfl) rfl fun hlen Γ hn hl => ?_
 have hl5 := hlen.1; simp only [List.length_map] at hl5
 refine zC (zB ?_)
 refine sq rfl rfl hn rfl (zF rfl rfl) ?_
 refine zE (zA (zC (zC (zB ?_))))
 refine sq rfl rfl hn rfl (zG rfl rfl) ?_
 refine sq rfl rfl hn rfl (z7 rfl rfl Tryz.underlying22) ?_
 refine sq rfl rfl hn rfl (zG rfl rfl) ?_
 refine zE (zA (zV ?_))
 refine awp_loop_on (ι := { i : Nat // i ≤ l.length ∧ (l.take i).all (fun x => !(n == x)) = true }) (fun i => (8, true, .d (.int .i64 (i.1 : Int))) :: anys [9, 10, 5, 11, 12, 13, 14, 15, 16, 18]) (fun i => []) (fun i => l.length - i.1) ⟨0, by simp⟩ ⟨.inl rfl, zJ _⟩ trivial ?_
 rintro ⟨i, hi, hall⟩
 dsimp only
 refine zC (zB ?_)
 refine sq rfl rfl hn rfl (yJ rfl rfl rfl) ?_
 refine zE (zA (zC ?_))
 refine zS rfl (fun hb0 => ?_) (fun hb0 => ?_)
 ·
  try simp only [decide_eq_true_eq, decide_eq_false_iff_not, Bool.and_eq_true, Bool.or_eq_true, Bool.and_eq_false_iff, Bool.or_eq_false_iff, Bool.not_eq_true', Bool.not_eq_false', beq_iff_eq, bne_iff_ne, ne_eq, beq_eq_false_iff_ne, bne_eq_false_iff_eq, Int.not_lt, Int.not_le] at hb0
  have hlt : i < l.length := by simpa using hb0
  obtain ⟨x, hx⟩ := z2 hlt
  refine zU (zA (zC (zV (zC (zB ?_)))))
  refine sq rfl rfl hn rfl (zG rfl rfl) ?_
  refine sq rfl rfl hn rfl (zF rfl rfl) ?_
  refine zE (zA (zC (zB ?_)))
  refine sq rfl rfl hn rfl (zG rfl rfl) ?_
  refine sq rfl rfl hn rfl (zG rfl rfl) ?_
  refine sq rfl rfl hn rfl (zG rfl rfl) ?_
  refine sq rfl rfl hn rfl (q_index rfl rfl rfl Tryz.underlying22 sz3 rfl (mget hx)) ?_
  refine sq rfl rfl hn rfl (zR rfl rfl Tryz.underlying3 rfl seesF0) ?_
  refine sq rfl rfl hn rfl (yG rfl rfl rfl) ?_
  refine zE (zA ?_)
  refine zS rfl (fun hb1 => ?_) (fun hb1 => ?_)
  ·
   refine zC (zB ?_)
   refine sq rfl rfl hn rfl (zG rfl rfl) ?_
   refine sq rfl rfl hn rfl (zF rfl rfl) ?_
   refine zE (zA (zO (zf (zL (zL (zf (zL ?_)))))))
   refine zp (zt (.inl rfl) hl rfl (.tmp rfl)) ?_
   rw [yu hx hall hb1]
  ·
   refine zU (za (zA (zB ?_)))
   refine sq rfl rfl hn rfl (z6 rfl rfl rfl (r := ((i + 1 : Nat) : Int)) (i64w (by omega) (by omega))) ?_
   refine sq rfl rfl hn rfl (zG rfl rfl) ?_
   refine zE ?_
   exact zZ ⟨i + 1, by omega, yN hx hall (by rw [hb1]; rfl)⟩ ⟨.inl rfl, zJ _⟩ trivial (by simp only; omega) (by repeat (first | exact kr _ | refine kc rfl ?_)) (by repeat (first | exact kr _ | refine kc rfl ?_))
 ·
  try simp only [decide_eq_true_eq, decide_eq_false_iff_not, Bool.and_eq_true, Bool.or_eq_true, Bool.and_eq_false_iff, Bool.or_eq_false_iff, Bool.not_eq_true', Bool.not_eq_false', beq_iff_eq, bne_iff_ne, ne_eq, beq_eq_false_iff_ne, bne_eq_false_iff_eq, Int.not_lt, Int.not_le] at hb0
  refine zw (zK (zK (zW (zA (zC (zB ?_))))))
  refine sq rfl rfl hn rfl (zF rfl rfl) ?_
  refine zE (zA (zO ?_))
  refine zp (zt (.inl rfl) hl rfl (.tmp rfl)) ?_
  rw [ye (full_all hb0 hi hall)]
theorem open_ok (r : Reg) (d : Nat) (a b : Int) (v : Valid r) (hd : d < 18446744073709551616) : PureAt Tryz.prog 149 [regD r, .int .u64 (d : Nat), .int .i64 a, .int .i64 b] (.int .i64 (openN r d a b)) := by
 refine PureAt.of_awp Tryz.func149 rfl (by kernel_rfl) (Nat.le_of_ble_eq_true rfl) fun Γ hn hl => ?_
 have he6 := v.e6
 refine zC (zB ?_)
 refine stepW (zr 4 rfl rfl rfl (nb hn rfl) rfl rfl) fun b4 => ?_
 refine sq rfl rfl hn rfl (zF rfl rfl) ?_
 refine zE (zA (zC (zC (zB ?_))))
 refine sq rfl rfl hn rfl (zH rfl rfl Tryz.underlying44 rfl sz41) ?_
 refine sq rfl rfl hn rfl (zQ rfl rfl (id := 4) rfl Tryz.underlying41 rfl rfl sees0) ?_
 refine sq rfl rfl hn rfl (z7 rfl rfl Tryz.underlying41) ?_
 refine sq rfl rfl hn rfl (zG rfl rfl) ?_
 refine zE (zA (zV ?_))
 refine awp_loop_on (ι := { x : Nat × Int // x.1 ≤ r.entries.length ∧ -(x.1 : Int) ≤ x.2 ∧ x.2 ≤ x.1 ∧ openN r d a b = openF d a b x.1 (r.entries.drop x.1) x.2 }) (fun x => (14, true, .d (.int .i64 (x.1.1 : Int))) :: (8, true, .d (.int .i64 x.1.2)) :: anys [15, 16, 17, 18, 10, 9, 20, 21, 22, 23, 19, 25, 26, 27, 28, 29, 30, 31, 32, 33, 34, 35, 36, 37, 38, 39, 24, 40, 41, 43, 44, 45, 46, 47, 48, 49, 50, 51, 52, 53, 54, 55, 56, 57, 42, 58, 59, 60]) (fun x => gones [10]) (fun x => r.entries.length - x.1.1) ⟨(0, 0), by simp, by simp, by simp, by simp [openN]⟩ ⟨.inl rfl, .inl rfl, zJ _⟩ (zX _) ?_
 rintro ⟨⟨i, n⟩, hi, hn1, hn2, hF⟩
 dsimp only
 dsimp only at hi hn1 hn2 hF
 refine zC (zB ?_)
 refine sq rfl rfl hn rfl (yJ rfl rfl rfl) ?_
 refine zE (zA (zC ?_))
 refine zS rfl (fun hb0 => ?_) (fun hb0 => ?_)
 ·
  try simp only [decide_eq_true_eq, decide_eq_false_iff_not, Bool.and_eq_true, Bool.or_eq_true, Bool.and_eq_false_iff, Bool.or_eq_false_iff, Bool.not_eq_true', Bool.not_eq_false', beq_iff_eq, bne_iff_ne, ne_eq, beq_eq_false_iff_ne, bne_eq_false_iff_eq, Int.not_lt, Int.not_le] at hb0
  have hlt : i < r.entries.length := by simpa using hb0
  obtain ⟨e, he⟩ := z2 hlt
  rw [zAf he] at hF; simp only [openF] at hF
  refine zU (zA (zC (zV (zC (zB ?_)))))
  refine sq rfl rfl hn rfl (zG rfl rfl) ?_
  refine sq rfl rfl hn rfl (q_index rfl rfl rfl Tryz.underlying41 sz87 rfl (mget he)) ?_
  refine sq rfl rfl hn rfl (ze rfl rfl Tryz.underlying87 rfl sz87 rfl rfl seesF0) ?_
  refine stepW (zh 10 rfl rfl rfl (nb hn rfl) zr87 rfl rfl) fun b10 => ?_
  refine sq rfl rfl hn rfl (zF rfl rfl) ?_
  refine stepW (zl rfl rfl rfl rfl rfl rfl (id := 10) rfl sz87 rfl (Nat.le_of_ble_eq_true rfl) rfl trivial) fun _ => ?_
  refine zE (zA (zV (zC (zB ?_))))
  refine sq rfl rfl hn rfl (zG rfl rfl) ?_
  refine sq rfl rfl hn rfl (zG rfl rfl) ?_
  refine stepW (s_call [] (fun _ => zC9 d i hd (by omega)) rfl (zI rfl) rfl (nb hn rfl) (fun _ => trivial) rfl rfl (.refl _)) fun _ => ?_
  refine sq rfl rfl hn rfl (yF rfl rfl) ?_
  refine sq rfl rfl hn rfl (zF rfl rfl) ?_
  refine zE (zA ?_)
  refine zS rfl (fun hb1 => ?_) (fun hb1 => ?_)
  ·
   refine zU (za (za (zA (zB ?_))))
   refine sq rfl rfl hn rfl (z6 rfl rfl rfl (r := ((i + 1 : Nat) : Int)) (i64w (by omega) (by omega))) ?_
   refine sq rfl rfl hn rfl (zG rfl rfl) ?_
   refine zE ?_
   exact zZ ⟨(i + 1, n), by simp only; omega, by simp only; omega, by simp only; omega, by rw [hF, hb1]; rfl⟩ ⟨.inl rfl, .inl rfl, zJ _⟩ (zX _) (by simp only; omega) (by repeat (first | exact kr _ | refine kc rfl ?_)) (by repeat (first | exact kr _ | refine kc rfl ?_))
  ·
   refine zC (zB ?_)
   refine sq rfl rfl hn rfl (zH rfl rfl Tryz.underlying87 rfl sz3) ?_
   refine sq rfl rfl hn rfl (zQ rfl rfl (id := 10) rfl Tryz.underlying3 rfl rfl sees0) ?_
   refine sq rfl rfl hn rfl (yG rfl rfl rfl) ?_
   refine sq rfl rfl hn rfl (zG rfl rfl) ?_
   refine stepG [] (zD rfl rfl rfl) rfl (nb hn rfl) (fun hc => trivial) (fun hc => zH rfl rfl Tryz.underlying87 rfl sz3) ?_
   refine stepG [(29, _)] (zD rfl rfl rfl) rfl (nb hn rfl) (fun hc => ⟨⟨_, rfl, hc⟩, trivial⟩) (fun hc => zQ rfl rfl (id := 10) rfl Tryz.underlying3 rfl rfl sees0) ?_
   refine stepG [] (zD rfl rfl rfl) rfl (nb hn rfl) (fun hc => trivial) (fun hc => zG rfl rfl) ?_
   refine stepG [(30, _), (31, _)] (zD rfl rfl rfl) rfl (nb hn rfl) (fun hc => ⟨⟨_, rfl, hc⟩, ⟨_, rfl, hc⟩, trivial⟩) (fun hc => yG rfl rfl rfl) ?_
   refine sq rfl rfl hn rfl (zy rfl rfl rfl (by intro hB; first | (rw [hB]; rfl) | (rw [hB, hc]; rfl) | simp_all)) ?_
   refine sq rfl rfl hn rfl (zG rfl rfl) ?_
   refine stepG [] (zD rfl rfl rfl) rfl (nb hn rfl) (fun hc => trivial) (fun hc => zH rfl rfl Tryz.underlying87 rfl sz3) ?_
   refine stepG [(35, _)] (zD rfl rfl rfl) rfl (nb hn rfl) (fun hc => ⟨⟨_, rfl, hc⟩, trivial⟩) (fun hc => zQ rfl rfl (id := 10) rfl Tryz.underlying3 rfl rfl sees0) ?_
   refine stepG [] (zD rfl rfl rfl) rfl (nb hn rfl) (fun hc => trivial) (fun hc => zG rfl rfl) ?_
   refine stepG [(36, _), (37, _)] (zD rfl rfl rfl) rfl (nb hn rfl) (fun hc => ⟨⟨_, rfl, hc⟩, ⟨_, rfl, hc⟩, trivial⟩) (fun hc => yG rfl rfl rfl) ?_
   refine sq rfl rfl hn rfl (zy rfl rfl rfl (by intro hB; first | (rw [hB]; rfl) | (rw [hB, hc]; rfl) | simp_all)) ?_
   refine sq rfl rfl hn rfl (zF rfl rfl) ?_
   refine zE (zA ?_)
   refine zS rfl (fun hb2 => ?_) (fun hb2 => ?_)
   ·
    refine zB ?_
    refine sq rfl rfl hn rfl (zG rfl rfl) ?_
    refine sq rfl rfl hn rfl (z6 rfl rfl rfl (i64w (by omega) rfl)) ?_
    refine sq rfl rfl hn rfl (zF rfl rfl) ?_
    refine zE (za (za (zA (zB ?_))))
    refine sq rfl rfl hn rfl (z6 rfl rfl rfl (r := ((i + 1 : Nat) : Int)) (i64w (by omega) (by omega))) ?_
    refine sq rfl rfl hn rfl (zG rfl rfl) ?_
    refine zE ?_
    exact zZ ⟨(i + 1, n + 1), by simp only; omega, by simp only; omega, by simp only; omega, by rw [hF, hb1, hb2]; rfl⟩ ⟨.inl rfl, .inl rfl, zJ _⟩ (zX _) (by simp only; omega) (by repeat (first | exact kr _ | refine kc rfl ?_)) (by repeat (first | exact kr _ | refine kc rfl ?_))
   ·
    refine zC (zB ?_)
    refine sq rfl rfl hn rfl (zH rfl rfl Tryz.underlying87 rfl sz3) ?_
    refine sq rfl rfl hn rfl (zQ rfl rfl (id := 10) rfl Tryz.underlying3 rfl rfl sees0) ?_
    refine sq rfl rfl hn rfl (yG rfl rfl rfl) ?_
    refine sq rfl rfl hn rfl (zG rfl rfl) ?_
    refine stepG [] (zD rfl rfl rfl) rfl (nb hn rfl) (fun hc => trivial) (fun hc => zH rfl rfl Tryz.underlying87 rfl sz3) ?_
    refine stepG [(47, _)] (zD rfl rfl rfl) rfl (nb hn rfl) (fun hc => ⟨⟨_, rfl, hc⟩, trivial⟩) (fun hc => zQ rfl rfl (id := 10) rfl Tryz.underlying3 rfl rfl sees0) ?_
    refine stepG [] (zD rfl rfl rfl) rfl (nb hn rfl) (fun hc => trivial) (fun hc => zG rfl rfl) ?_
    refine stepG [(48, _), (49, _)] (zD rfl rfl rfl) rfl (nb hn rfl) (fun hc => ⟨⟨_, rfl, hc⟩, ⟨_, rfl, hc⟩, trivial⟩) (fun hc => yG rfl rfl rfl) ?_
    refine sq rfl rfl hn rfl (zy rfl rfl rfl (by intro hB; first | (rw [hB]; rfl) | (rw [hB, hc]; rfl) | simp_all)) ?_
    refine sq rfl rfl hn rfl (zG rfl rfl) ?_
    refine stepG [] (zD rfl rfl rfl) rfl (nb hn rfl) (fun hc => trivial) (fun hc => zH rfl rfl Tryz.underlying87 rfl sz3) ?_
    refine stepG [(53, _)] (zD rfl rfl rfl) rfl (nb hn rfl) (fun hc => ⟨⟨_, rfl, hc⟩, trivial⟩) (fun hc => zQ rfl rfl (id := 10) rfl Tryz.underlying3 rfl rfl sees0) ?_
    refine stepG [] (zD rfl rfl rfl) rfl (nb hn rfl) (fun hc => trivial) (fun hc => zG rfl rfl) ?_
    refine stepG [(54, _), (55, _)] (zD rfl rfl rfl) rfl (nb hn rfl) (fun hc => ⟨⟨_, rfl, hc⟩, ⟨_, rfl, hc⟩, trivial⟩) (fun hc => yG rfl rfl rfl) ?_
    refine sq rfl rfl hn rfl (zy rfl rfl rfl (by intro hB; first | (rw [hB]; rfl) | (rw [hB, hc]; rfl) | simp_all)) ?_
    refine sq rfl rfl hn rfl (zF rfl rfl) ?_
    refine zE (zA ?_)
    refine zS rfl (fun hb3 => ?_) (fun hb3 => ?_)
    ·
     refine zB ?_
     refine sq rfl rfl hn rfl (zG rfl rfl) ?_
     refine sq rfl rfl hn rfl (zAl rfl rfl rfl (i64w (by omega) rfl)) ?_
     refine sq rfl rfl hn rfl (zF rfl rfl) ?_
     refine zE (za (za (zA (zB ?_))))
     refine sq rfl rfl hn rfl (z6 rfl rfl rfl (r := ((i + 1 : Nat) : Int)) (i64w (by omega) (by omega))) ?_
     refine sq rfl rfl hn rfl (zG rfl rfl) ?_
     refine zE ?_
     exact zZ ⟨(i + 1, n - 1), by simp only; omega, by simp only; omega, by simp only; omega, by rw [hF, hb1, hb2, hb3]; rfl⟩ ⟨.inl rfl, .inl rfl, zJ _⟩ (zX _) (by simp only; omega) (by repeat (first | exact kr _ | refine kc rfl ?_)) (by repeat (first | exact kr _ | refine kc rfl ?_))
    ·
     refine zU (za (za (zA (zB ?_))))
     refine sq rfl rfl hn rfl (z6 rfl rfl rfl (r := ((i + 1 : Nat) : Int)) (i64w (by omega) (by omega))) ?_
     refine sq rfl rfl hn rfl (zG rfl rfl) ?_
     refine zE ?_
     exact zZ ⟨(i + 1, n), by simp only; omega, by simp only; omega, by simp only; omega, by rw [hF, hb1, hb2, hb3]; rfl⟩ ⟨.inl rfl, .inl rfl, zJ _⟩ (zX _) (by simp only; omega) (by repeat (first | exact kr _ | refine kc rfl ?_)) (by repeat (first | exact kr _ | refine kc rfl ?_))
 ·
  try simp only [decide_eq_true_eq, decide_eq_false_iff_not, Bool.and_eq_true, Bool.or_eq_true, Bool.and_eq_false_iff, Bool.or_eq_false_iff, Bool.not_eq_true', Bool.not_eq_false', beq_iff_eq, bne_iff_ne, ne_eq, beq_eq_false_iff_ne, bne_eq_false_iff_eq, Int.not_lt, Int.not_le] at hb0
  refine zw (zK (zK (zW (zA (zC (zB ?_))))))
  refine sq rfl rfl hn rfl (zG rfl rfl) ?_
  refine sq rfl rfl hn rfl (zF rfl rfl) ?_
  refine zE (zA (zO ?_))
  refine zp (zt (.inl rfl) hl rfl (.tmp rfl)) ?_
  have e : i = r.entries.length := by simp only [List.length_map] at hb0; omega
  subst e; rw [List.drop_length] at hF; rw [hF]; rfl
theorem zBP (r : Reg) (d : Nat) (v : Valid r) (hd : d < 18446744073709551616) : PureAt Tryz.prog 88 [regD r, .int .u64 (d : Nat)] (.agg ((placesA r d).map intD)) := by
 refine PureAt.of_awp Tryz.func88 rfl (by kernel_rfl) (Nat.le_of_ble_eq_true rfl) fun Γ hn hl => ?_
 have he6 := v.e6; have hs4 := v.s4; have hh4 := v.h4
 refine zC (zB ?_)
 refine stepW (zr 2 rfl rfl rfl (nb hn rfl) rfl rfl) fun b2 => ?_
 refine stepW (zh 4 rfl rfl rfl (nb hn rfl) zr151 rfl rfl) fun b4 => ?_
 refine zE (zA (zC ?_))
 refine yC (W := fun b => b ≠ b2) fmo ?_
 refine d1q (i := 0) rfl (by kernel_rfl) (fun _ _ _ _ h => h) rfl rfl hn rfl (zDR rfl rfl Tryz.underlying151 sz3) ?_
 refine d1q (i := 1) rfl (by kernel_rfl) (fun _ _ _ _ h => h) rfl rfl hn rfl (zH rfl rfl Tryz.underlying44 rfl sz22) ?_
 refine d1q (i := 2) rfl (by kernel_rfl) (fun _ _ _ _ h => h) rfl rfl hn rfl (zQ rfl rfl (id := 2) rfl Tryz.underlying22 rfl rfl (seesA (by simp))) ?_
 refine zM ?_
 refine kH (i := 4) (j := 2) rfl rfl rfl (fun hne4_2 => ?_)
 refine zk (i := 3) (by kernel_rfl) rfl (s_copy rfl rfl rfl rfl (id := 4) rfl Tryz.underlying22 sz3 (Nat.le_of_ble_eq_true rfl) (copy0 (d := d) hs4 rfl) (fun e => hne4_2 _ rfl (congrArg some e.symm)) rfl (nb hn rfl)) fun _ => ?_
 refine d2_of_d1 (zM ?_)
 refine zv (by kernel_rfl) ?_
 refine zA (zC (zC (zB ?_)))
 refine sq rfl rfl hn rfl (zH rfl rfl Tryz.underlying44 rfl sz22) ?_
 refine sq rfl rfl hn rfl (zQ rfl rfl (id := 2) rfl Tryz.underlying22 rfl rfl sees0) ?_
 refine sq rfl rfl hn rfl (z7 rfl rfl Tryz.underlying22) ?_
 refine sq rfl rfl hn rfl (zG rfl rfl) ?_
 refine zE (zA (zV ?_))
 refine awp_loop_on (ι := { i : Nat // i ≤ r.start.length }) (fun x => (16, true, .d (.int .i64 (x.1 : Int))) :: anys [17, 18, 5, 6, 19, 20, 21, 22, 23, 24, 25, 26, 27, 28, 29, 30, 31, 32, 33, 8, 7, 34, 35, 36, 37, 38, 39, 40, 41, 42, 43, 44, 45, 46, 47, 48, 49, 50, 51, 52, 53, 54, 55, 56, 57, 58, 59, 60]) (fun x => (4, .box b4 151 ((placesL r d x.1).map intT)) :: gones [6, 8]) (fun x => r.start.length - x.1) ⟨0, by simp⟩ ⟨.inl rfl, zJ _⟩ ⟨.inl rfl, zX _⟩ ?_
 rintro ⟨i, hi⟩
 dsimp only
 refine zC (zB ?_)
 refine sq rfl rfl hn rfl (yJ rfl rfl rfl) ?_
 refine zE (zA (zC ?_))
 refine zS rfl (fun hb0 => ?_) (fun hb0 => ?_)
 ·
  try simp only [decide_eq_true_eq, decide_eq_false_iff_not, Bool.and_eq_true, Bool.or_eq_true, Bool.and_eq_false_iff, Bool.or_eq_false_iff, Bool.not_eq_true', Bool.not_eq_false', beq_iff_eq, bne_iff_ne, ne_eq, beq_eq_false_iff_ne, bne_eq_false_iff_eq, Int.not_lt, Int.not_le] at hb0
  have hlt : i < r.start.length := by simpa using hb0
  obtain ⟨x0, hx0⟩ := z2 hlt
  have hi4 : i < 4 := by omega
  have hx1 := v.st x0 (List.mem_of_getElem? hx0)
  refine zU (zA (zC (zV (zC (zB ?_)))))
  refine sq rfl rfl hn rfl (zG rfl rfl) ?_
  refine sq rfl rfl hn rfl (zF rfl rfl) ?_
  refine zE (zA (zC (zB ?_)))
  refine stepW (zh 6 rfl rfl rfl (nb hn rfl) zr94 rfl rfl) fun b6 => ?_
  refine zE (zA (zC (zB ?_)))
  refine sq rfl rfl hn rfl (zG rfl rfl) ?_
  refine sq rfl rfl hn rfl (q_indexA rfl rfl rfl Tryz.underlying151 sz3 rfl (by omega)) ?_
  refine sq rfl rfl hn rfl (zQ rfl rfl (id := 4) rfl Tryz.underlying3 rfl (at1 (placesL_cur hx0 hi4)) sees0) ?_
  refine sq rfl rfl hn rfl (q_indexA (i := x0.toNat) rfl rfl rfl Tryz.underlying94 sz3 (by omega) (by omega)) ?_
  refine sq rfl rfl hn rfl (zQ rfl rfl (id := 6) rfl Tryz.underlying3 rfl (zero4 (by omega)) sees0) ?_
  refine sq rfl rfl hn rfl (z6 rfl rfl rfl (i64w (by omega) rfl)) ?_
  refine sq rfl rfl hn rfl (q_indexA (i := x0.toNat) rfl rfl rfl Tryz.underlying94 sz3 (by omega) (by omega)) ?_
  refine stepW (s_store1 rfl rfl rfl rfl rfl rfl (id := 6) rfl sz3 (by simp [Value.cells]; omega) (set_come0 (by omega)) trivial) fun _ => ?_
  refine zE (zA (zC (zC (zB ?_))))
  refine sq rfl rfl hn rfl (zH rfl rfl Tryz.underlying44 rfl sz41) ?_
  refine sq rfl rfl hn rfl (zQ rfl rfl (id := 2) rfl Tryz.underlying41 rfl rfl sees0) ?_
  refine sq rfl rfl hn rfl (z7 rfl rfl Tryz.underlying41) ?_
  refine sq rfl rfl hn rfl (zG rfl rfl) ?_
  refine zE (zA (zV ?_))
  refine awp_loop_on (ι := { y : Nat × List Int // y.1 ≤ r.entries.length ∧ y.2.length = 4 ∧ (∀ z ∈ y.2, -((y.1 : Int) * 2 + 1) ≤ z ∧ z ≤ (y.1 : Int) * 2 + 1) ∧ comeF d i 0 r.entries (come0 x0) = comeF d i y.1 (r.entries.drop y.1) y.2 }) (fun y => (29, true, .d (.int .i64 (y.1.1 : Int))) :: anys [30, 31, 32, 33, 8, 7, 34, 35, 36, 37, 38, 39, 40, 41, 42, 43, 44, 45, 46, 47, 48, 49, 50, 51, 52, 53, 54, 55]) (fun y => (6, .box b6 94 (y.1.2.map intT)) :: gones [8]) (fun y => r.entries.length - y.1.1) ⟨(0, come0 x0), by simp, zAg, by simpa using come0_bd, by simp⟩ ⟨.inl rfl, zJ _⟩ ⟨.inl rfl, zX _⟩ ?_
  rintro ⟨⟨k, c⟩, hk, hc4, hbd, hF⟩
  dsimp only
  dsimp only at hk hc4 hbd hF
  refine zC (zB ?_)
  refine sq rfl rfl hn rfl (yJ rfl rfl rfl) ?_
  refine zE (zA (zC ?_))
  refine zS rfl (fun hb1 => ?_) (fun hb1 => ?_)
  ·
   try simp only [decide_eq_true_eq, decide_eq_false_iff_not, Bool.and_eq_true, Bool.or_eq_true, Bool.and_eq_false_iff, Bool.or_eq_false_iff, Bool.not_eq_true', Bool.not_eq_false', beq_iff_eq, bne_iff_ne, ne_eq, beq_eq_false_iff_ne, bne_eq_false_iff_eq, Int.not_lt, Int.not_le] at hb1
   have hlt2 : k < r.entries.length := by simpa using hb1
   obtain ⟨e, he⟩ := z2 hlt2
   have hen := v.en e (List.mem_of_getElem? he)
   rw [zAf he] at hF; simp only [comeF] at hF
   have q1 := hbd _ (zCC (l := c) (k := e.frm.toNat) (by omega))
   have hbd1 := zDB (h := e.frm) (x := -1) hbd (by omega) (by omega)
   have hl1 : (bump c e.frm (-1)).length = 4 := by rw [kC, hc4]
   have q2 := hbd1 _ (zCC (l := bump c e.frm (-1)) (k := e.to.toNat) (by omega))
   have hbd2 := zDB (h := e.to) (x := 1) hbd1 (by omega) (by omega)
   have hl2 : (bump (bump c e.frm (-1)) e.to 1).length = 4 := by rw [kC, hl1]
   refine zU (zA (zC (zV (zC (zB ?_)))))
   refine sq rfl rfl hn rfl (zG rfl rfl) ?_
   refine sq rfl rfl hn rfl (q_index rfl rfl rfl Tryz.underlying41 sz87 rfl (mget he)) ?_
   refine sq rfl rfl hn rfl (ze rfl rfl Tryz.underlying87 rfl sz87 rfl rfl seesF0) ?_
   refine stepW (zh 8 rfl rfl rfl (nb hn rfl) zr87 rfl rfl) fun b8 => ?_
   refine sq rfl rfl hn rfl (zF rfl rfl) ?_
   refine stepW (zl rfl rfl rfl rfl rfl rfl (id := 8) rfl sz87 rfl (Nat.le_of_ble_eq_true rfl) rfl trivial) fun _ => ?_
   refine zE (zA (zC (zB ?_)))
   refine sq rfl rfl hn rfl (zG rfl rfl) ?_
   refine sq rfl rfl hn rfl (zG rfl rfl) ?_
   refine stepW (s_call [] (fun _ => zC9 d k hd (by omega)) rfl (zI rfl) rfl (nb hn rfl) (fun _ => trivial) rfl rfl (.refl _)) fun _ => ?_
   refine sq rfl rfl hn rfl (zG rfl rfl) ?_
   refine stepG [] (zD rfl rfl rfl) rfl (nb hn rfl) (fun hc => trivial) (fun hc => zH rfl rfl Tryz.underlying87 rfl sz3) ?_
   refine stepG [(38, _)] (zD rfl rfl rfl) rfl (nb hn rfl) (fun hc => ⟨⟨_, rfl, hc⟩, trivial⟩) (fun hc => zQ rfl rfl (id := 8) rfl Tryz.underlying3 rfl rfl sees0) ?_
   refine stepG [] (zD rfl rfl rfl) rfl (nb hn rfl) (fun hc => trivial) (fun hc => zG rfl rfl) ?_
   refine stepG [(39, _), (40, _)] (zD rfl rfl rfl) rfl (nb hn rfl) (fun hc => ⟨⟨_, rfl, hc⟩, ⟨_, rfl, hc⟩, trivial⟩) (fun hc => yG rfl rfl rfl) ?_
   refine sq rfl rfl hn rfl (zy rfl rfl rfl (by intro hB; first | (rw [hB]; rfl) | (rw [hB, hc]; rfl) | simp_all)) ?_
   refine zE (zA ?_)
   refine zS rfl (fun hb2 => ?_) (fun hb2 => ?_)
   ·
    refine zC (zB ?_)
    refine sq rfl rfl hn rfl (zH rfl rfl Tryz.underlying87 rfl sz3) ?_
    refine sq rfl rfl hn rfl (zQ rfl rfl (id := 8) rfl Tryz.underlying3 rfl rfl sees0) ?_
    refine sq rfl rfl hn rfl (q_indexA (i := e.frm.toNat) rfl rfl rfl Tryz.underlying94 sz3 (by omega) (by omega)) ?_
    refine sq rfl rfl hn rfl (zQ rfl rfl (id := 6) rfl Tryz.underlying3 rfl (at1 (getD_some (by omega))) sees0) ?_
    refine sq rfl rfl hn rfl (zAl rfl rfl rfl (r := c.getD e.frm.toNat 0 + (-1)) (i64w (by omega) (by omega))) ?_
    refine sq rfl rfl hn rfl (q_indexA (i := e.frm.toNat) rfl rfl rfl Tryz.underlying94 sz3 (by omega) (by omega)) ?_
    refine stepW (s_store1 rfl rfl rfl rfl rfl rfl (id := 6) rfl sz3 (by simp; omega) (show _ = (bump c e.frm (-1)).map intT from set1) trivial) fun _ => ?_
    refine zE (zA (zB ?_))
    refine sq rfl rfl hn rfl (zH rfl rfl Tryz.underlying87 rfl sz3) ?_
    refine sq rfl rfl hn rfl (zQ rfl rfl (id := 8) rfl Tryz.underlying3 rfl rfl sees0) ?_
    refine sq rfl rfl hn rfl (q_indexA (i := e.to.toNat) rfl rfl rfl Tryz.underlying94 sz3 (by omega) (by omega)) ?_
    refine sq rfl rfl hn rfl (zQ rfl rfl (id := 6) rfl Tryz.underlying3 rfl (at1 (getD_some (by omega))) sees0) ?_
    refine sq rfl rfl hn rfl (z6 rfl rfl rfl (r := (bump c e.frm (-1)).getD e.to.toNat 0 + 1) (i64w (by omega) (by omega))) ?_
    refine sq rfl rfl hn rfl (q_indexA (i := e.to.toNat) rfl rfl rfl Tryz.underlying94 sz3 (by omega) (by omega)) ?_
    refine stepW (s_store1 rfl rfl rfl rfl rfl rfl (id := 6) rfl sz3 (by simp; omega) (show _ = (bump (bump c e.frm (-1)) e.to 1).map intT from set1) trivial) fun _ => ?_
    refine zE (za (zA (zB ?_)))
    refine sq rfl rfl hn rfl (z6 rfl rfl rfl (r := ((k + 1 : Nat) : Int)) (i64w (by omega) (by omega))) ?_
    refine sq rfl rfl hn rfl (zG rfl rfl) ?_
    refine zE ?_
    exact zZ ⟨(k + 1, bump (bump c e.frm (-1)) e.to 1), by simp only; omega, hl2, fun z hz => by have := hbd2 z hz; simp only; omega, by rw [hF, hb2]; rfl⟩ ⟨.inl rfl, zJ _⟩ ⟨.inl rfl, zX _⟩ (by simp only; omega) (by repeat (first | exact kr _ | refine kc rfl ?_)) (by repeat (first | exact kr _ | refine kc rfl ?_))
   ·
    refine zU (za (zA (zB ?_)))
    refine sq rfl rfl hn rfl (z6 rfl rfl rfl (r := ((k + 1 : Nat) : Int)) (i64w (by omega) (by omega))) ?_
    refine sq rfl rfl hn rfl (zG rfl rfl) ?_
    refine zE ?_
    exact zZ ⟨(k + 1, c), by simp only; omega, hc4, fun z hz => by have := hbd z hz; simp only; omega, by rw [hF, hb2]; rfl⟩ ⟨.inl rfl, zJ _⟩ ⟨.inl rfl, zX _⟩ (by simp only; omega) (by repeat (first | exact kr _ | refine kc rfl ?_)) (by repeat (first | exact kr _ | refine kc rfl ?_))
  ·
   try simp only [decide_eq_true_eq, decide_eq_false_iff_not, Bool.and_eq_true, Bool.or_eq_true, Bool.and_eq_false_iff, Bool.or_eq_false_iff, Bool.not_eq_true', Bool.not_eq_false', beq_iff_eq, bne_iff_ne, ne_eq, beq_eq_false_iff_ne, bne_eq_false_iff_eq, Int.not_lt, Int.not_le] at hb1
   have hke : k = r.entries.length := by simp only [List.length_map] at hb1; omega
   have hpl : idxOf (fun x => (1 : Int) == x) c = placeOf r d i := by subst hke; rw [List.drop_length] at hF; unfold placeOf; rw [zD4 hx0, hF]; rfl
   refine zw (zK (zK (zW (zA (zB ?_)))))
   refine sq rfl rfl hn rfl (zG rfl rfl) ?_
   refine kM (zn (t := 6) 6 rfl (nb hn rfl) rfl (zDW c) trivial) ?_
   refine sq rfl rfl hn rfl (q_sliceP rfl rfl Tryz.underlying94 sz3 (beq_int4 hc4) (chunk_int4 hc4) rfl) ?_
   refine stepW (s_call [] (fun _ => hpl ▸ Index_ok c 1) rfl (zI rfl) rfl (nb hn rfl) (fun _ => trivial) rfl rfl (.refl _)) fun _ => ?_
   refine sq rfl rfl hn rfl (q_indexA rfl rfl rfl Tryz.underlying151 sz3 rfl (by omega)) ?_
   refine stepW (s_store1 rfl rfl rfl rfl rfl rfl (id := 4) rfl sz3 (by simp [placesL]; omega) (set1.trans (congrArg _ (placesL_set hi4))) trivial) fun _ => ?_
   refine zE (za (zA (zB ?_)))
   refine sq rfl rfl hn rfl (z6 rfl rfl rfl (r := ((i + 1 : Nat) : Int)) (i64w (by omega) (by omega))) ?_
   refine sq rfl rfl hn rfl (zG rfl rfl) ?_
   refine zE ?_
   exact zZ ⟨i + 1, by omega⟩ ⟨.inl rfl, zJ _⟩ ⟨.inl rfl, zX _⟩ (by simp only; omega) (by repeat (first | exact kr _ | refine kc rfl ?_)) (by repeat (first | exact kr _ | refine kc rfl ?_))
 ·
  try simp only [decide_eq_true_eq, decide_eq_false_iff_not, Bool.and_eq_true, Bool.or_eq_true, Bool.and_eq_false_iff, Bool.or_eq_false_iff, Bool.not_eq_true', Bool.not_eq_false', beq_iff_eq, bne_iff_ne, ne_eq, beq_eq_false_iff_ne, bne_eq_false_iff_eq, Int.not_lt, Int.not_le] at hb0
  have hie : i = r.start.length := by simp only [List.length_map] at hb0; omega
  subst hie
  refine zw (zK (zK (zW (zA (zC (zB ?_))))))
  refine sq rfl rfl hn rfl (zY rfl rfl (id := 4) rfl Tryz.underlying151 rfl sz151 rfl rfl sees0) ?_
  refine stepW (zl rfl rfl rfl rfl rfl rfl (id := 4) rfl sz151 rfl (Nat.le_of_ble_eq_true rfl) rfl trivial) fun _ => ?_
  refine zE (zA (zO ?_))
  exact zt (.inl rfl) hl rfl (.cellA rfl (id := 4) rfl Tryz.underlying151 rfl sz151 rfl rfl)
theorem kE (r : Reg) (d : Nat) : (placesA r d).length = 4 := by simp [placesA, placesL]
def canE (r : Reg) (i : Nat) (e : Ent5) (d : Nat) : Bool := !(d.testBit i) && ((placesA r d).getD e.sheet.toNat 0 == e.frm) && ((e.kind != 2) || decide (0 < openN r d e.to e.frm))
def canB (r : Reg) (i d : Nat) : Bool := match r.entries[i]? with
  | none => false
  | some e => canE r i e d
theorem can_ok (r : Reg) (i d : Nat) (v : Valid r) (hd : d < 18446744073709551616) (hi : i < r.entries.length) : PureAt Tryz.prog 136 [regD r, .int .i64 (i : Nat), .int .u64 (d : Nat)] (.bool (canB r i d)) := by
 have he6 := v.e6; have hs4 := v.s4
 obtain ⟨e, he⟩ := z2 hi
 have hen := v.en e (List.mem_of_getElem? he)
 refine PureAt.of_awp Tryz.func136 rfl (by kernel_rfl) (Nat.le_of_ble_eq_true rfl) fun Γ hn hl => ?_
 refine zC (zB ?_)
 refine stepW (zr 3 rfl rfl rfl (nb hn rfl) rfl rfl) fun b3 => ?_
 refine sq rfl rfl hn rfl (zF rfl rfl) ?_
 refine zE (zA (zC (zB ?_)))
 refine sq rfl rfl hn rfl (zH rfl rfl Tryz.underlying44 rfl sz41) ?_
 refine sq rfl rfl hn rfl (zQ rfl rfl (id := 3) rfl Tryz.underlying41 rfl rfl sees0) ?_
 refine sq rfl rfl hn rfl (zG rfl rfl) ?_
 refine sq rfl rfl hn rfl (q_index rfl rfl rfl Tryz.underlying41 sz87 rfl (mget he)) ?_
 refine sq rfl rfl hn rfl (ze rfl rfl Tryz.underlying87 rfl sz87 rfl rfl seesF0) ?_
 refine stepW (zh 7 rfl rfl rfl (nb hn rfl) zr87 rfl rfl) fun b7 => ?_
 refine stepW (zl rfl rfl rfl rfl rfl rfl (id := 7) rfl sz87 rfl (Nat.le_of_ble_eq_true rfl) rfl trivial) fun _ => ?_
 refine zE (zA (zC ?_))
 refine yC (W := fun b => b ≠ b3 ∧ b ≠ b7) fmo ?_
 refine d1q (i := 0) rfl (by kernel_rfl) (fun _ _ _ _ h => h) rfl rfl hn rfl (zG rfl rfl) ?_
 refine d1q (i := 1) rfl (by kernel_rfl) (fun _ _ _ _ h => h) rfl rfl hn rfl (zG rfl rfl) ?_
 refine zM ?_
 refine zk (i := 2) (by kernel_rfl) rfl (s_call [] (fun _ => zC9 d i hd (by omega)) rfl (zI rfl) rfl (nb hn rfl) (fun _ => trivial) rfl rfl (.refl _)) fun _ => ?_
 refine d2_of_d1 ?_
 refine d1q (i := 3) rfl (by kernel_rfl) (fun _ _ _ _ h => h) rfl rfl hn rfl (yF rfl rfl) ?_
 refine d1q (i := 4) rfl (by kernel_rfl) (fun _ _ _ _ h => h) rfl rfl hn rfl (zG rfl rfl) ?_
 refine d1g (i := 5) [] rfl (by kernel_rfl) (fun _ _ _ _ h => h) (zD rfl rfl rfl) rfl hn rfl (fun hc => trivial) (fun hc => zY rfl rfl (id := 3) rfl Tryz.underlying44 rfl sz44 rfl rfl (seesA (by simp))) ?_
 refine d1g (i := 6) [] rfl (by kernel_rfl) (fun _ _ _ _ h => h) (zD rfl rfl rfl) rfl hn rfl (fun hc => trivial) (fun hc => zG rfl rfl) ?_
 refine d1g (i := 8) [] rfl (by kernel_rfl) (fun _ _ _ _ h => h) (zD rfl rfl rfl) rfl hn rfl (fun hc => trivial) (fun hc => zH rfl rfl Tryz.underlying87 rfl sz3) ?_
 refine d1g (i := 9) [(21, _)] rfl (by kernel_rfl) (fun _ _ _ _ h => h) (zD rfl rfl rfl) rfl hn rfl (fun hc => ⟨⟨_, rfl, hc⟩, trivial⟩) (fun hc => zQ rfl rfl (id := 7) rfl Tryz.underlying3 rfl rfl (seesA (by simp))) ?_
 refine d1g (i := 11) [] rfl (by kernel_rfl) (fun _ _ _ _ h => h) (zD rfl rfl rfl) rfl hn rfl (fun hc => trivial) (fun hc => zH rfl rfl Tryz.underlying87 rfl sz3) ?_
 refine d1g (i := 12) [(24, _)] rfl (by kernel_rfl) (fun _ _ _ _ h => h) (zD rfl rfl rfl) rfl hn rfl (fun hc => ⟨⟨_, rfl, hc⟩, trivial⟩) (fun hc => zQ rfl rfl (id := 7) rfl Tryz.underlying3 rfl rfl (seesA (by simp))) ?_
 refine zM ?_
 refine zk (i := 7) (by kernel_rfl) rfl (s_call [(18, _), (19, _)] (fun hc => zBP r _ v (by assumption)) rfl (zD rfl rfl rfl) rfl (nb hn rfl) (fun hc => ⟨⟨_, rfl, hc⟩, ⟨_, rfl, hc⟩, trivial⟩) rfl rfl (.refl _)) fun _ => ?_
 refine d2_of_d1 ?_
 refine d1g (i := 10) [(20, _), (22, _)] rfl (by kernel_rfl) (fun _ _ _ _ h => h) (zD rfl rfl rfl) rfl hn rfl (fun hc => ⟨⟨_, rfl, hc⟩, ⟨_, rfl, hc⟩, trivial⟩) (fun hc => q_indexAgg (i := e.sheet.toNat) rfl rfl rfl Tryz.underlying151 Tryz.underlying3 rfl sz3 (by omega) (by omega) (mget (getD_some (by rw [kE]; omega)))) ?_
 refine d1g (i := 13) [(23, _), (25, _)] rfl (by kernel_rfl) (fun _ _ _ _ h => h) (zD rfl rfl rfl) rfl hn rfl (fun hc => ⟨⟨_, rfl, hc⟩, ⟨_, rfl, hc⟩, trivial⟩) (fun hc => yG rfl rfl rfl) ?_
 refine d1q (i := 14) rfl (by kernel_rfl) (fun _ _ _ _ h => h) rfl rfl hn rfl (zy rfl rfl rfl (by intro hB; first | (rw [hB]; rfl) | (rw [hB, hc]; rfl) | simp_all)) ?_
 refine d1q (i := 15) rfl (by kernel_rfl) (fun _ _ _ _ h => h) rfl rfl hn rfl (zG rfl rfl) ?_
 refine d1g (i := 16) [] rfl (by kernel_rfl) (fun _ _ _ _ h => h) (zD rfl rfl rfl) rfl hn rfl (fun hc => trivial) (fun hc => zH rfl rfl Tryz.underlying87 rfl sz3) ?_
 refine d1g (i := 17) [(29, _)] rfl (by kernel_rfl) (fun _ _ _ _ h => h) (zD rfl rfl rfl) rfl hn rfl (fun hc => ⟨⟨_, rfl, hc⟩, trivial⟩) (fun hc => zQ rfl rfl (id := 7) rfl Tryz.underlying3 rfl rfl (seesA (by simp))) ?_
 refine d1g (i := 18) [(30, _)] rfl (by kernel_rfl) (fun _ _ _ _ h => h) (zD rfl rfl rfl) rfl hn rfl (fun hc => ⟨⟨_, rfl, hc⟩, trivial⟩) (fun hc => yX rfl rfl rfl) ?_
 refine d1g (i := 19) [(31, _)] rfl (by kernel_rfl) (fun _ _ _ _ h => h) (zD rfl rfl rfl) rfl hn rfl (fun hc => ⟨⟨_, rfl, hc⟩, trivial⟩) (fun hc => zG rfl rfl) ?_
 refine d1g (i := 20) [] rfl (by kernel_rfl) (fun _ _ _ _ h => h) (zD rfl rfl rfl) rfl hn rfl (fun hc => trivial) (fun hc => zY rfl rfl (id := 3) rfl Tryz.underlying44 rfl sz44 rfl rfl (seesA (by simp))) ?_
 refine d1g (i := 21) [] rfl (by kernel_rfl) (fun _ _ _ _ h => h) (zD rfl rfl rfl) rfl hn rfl (fun hc => trivial) (fun hc => zG rfl rfl) ?_
 refine d1g (i := 22) [] rfl (by kernel_rfl) (fun _ _ _ _ h => h) (zD rfl rfl rfl) rfl hn rfl (fun hc => trivial) (fun hc => zH rfl rfl Tryz.underlying87 rfl sz3) ?_
 refine d1g (i := 23) [(35, _)] rfl (by kernel_rfl) (fun _ _ _ _ h => h) (zD rfl rfl rfl) rfl hn rfl (fun hc => ⟨⟨_, rfl, hc⟩, trivial⟩) (fun hc => zQ rfl rfl (id := 7) rfl Tryz.underlying3 rfl rfl (seesA (by simp))) ?_
 refine d1g (i := 24) [] rfl (by kernel_rfl) (fun _ _ _ _ h => h) (zD rfl rfl rfl) rfl hn rfl (fun hc => trivial) (fun hc => zH rfl rfl Tryz.underlying87 rfl sz3) ?_
 refine d1g (i := 25) [(37, _)] rfl (by kernel_rfl) (fun _ _ _ _ h => h) (zD rfl rfl rfl) rfl hn rfl (fun hc => ⟨⟨_, rfl, hc⟩, trivial⟩) (fun hc => zQ rfl rfl (id := 7) rfl Tryz.underlying3 rfl rfl (seesA (by simp))) ?_
 refine zM ?_
 refine zk (i := 26) (by kernel_rfl) rfl (s_call [(33, _), (34, _), (36, _), (38, _)] (fun hc => open_ok _ _ _ _ v hd) rfl (zD rfl rfl rfl) rfl (nb hn rfl) (fun hc => ⟨⟨_, rfl, hc⟩, ⟨_, rfl, hc⟩, ⟨_, rfl, hc⟩, ⟨_, rfl, hc⟩, trivial⟩) rfl rfl (.refl _)) fun _ => ?_
 refine d2_of_d1 ?_
 refine d1g (i := 27) [(39, _)] rfl (by kernel_rfl) (fun _ _ _ _ h => h) (zD rfl rfl rfl) rfl hn rfl (fun hc => ⟨⟨_, rfl, hc⟩, trivial⟩) (fun hc => zBF rfl rfl rfl) ?_
 refine d1g (i := 28) [(32, _)] rfl (by kernel_rfl) (fun _ _ _ _ h => h) (zD rfl rfl rfl) rfl hn rfl (fun hc => ⟨⟨_, rfl, hc⟩, trivial⟩) (fun hc => q_or rfl rfl rfl (by intro hB; first | (rw [hB]; rfl) | (rw [hB, hc]; rfl) | simp_all)) ?_
 refine d1q (i := 29) rfl (by kernel_rfl) (fun _ _ _ _ h => h) rfl rfl hn rfl (zy rfl rfl rfl (by intro hB; first | (rw [hB]; rfl) | (rw [hB, hc]; rfl) | simp_all)) ?_
 refine d1q (i := 30) rfl (by kernel_rfl) (fun _ _ _ _ h => h) rfl rfl hn rfl (zF rfl rfl) ?_
 refine zM ?_
 refine zv (by kernel_rfl) ?_
 refine zA (zO ?_)
 refine zp (zt (.inl rfl) hl rfl (.tmp rfl)) ?_
 simp only [canB, he, canE, Bool.and_assoc]
theorem shl_bit {k : Nat} (h : k < 64) : IntKind.u64.wrap (1 * 2 ^ ((k : Int)).toNat) = ((2 ^ k : Nat) : Int) := by
  have h1 : 2 ^ k < 18446744073709551616 := by
    have := Nat.pow_lt_pow_right (a := 2) (by omega) h
    simpa using this
  have e : (1 * 2 ^ ((k : Int)).toNat : Int) = ((2 ^ k : Nat) : Int) := by simp
  rw [e]
  generalize 2 ^ k = x at h1
  exact u64w (by omega) rfl
theorem or_bits {d x : Nat} (hd : d < 18446744073709551616) (hx : x < 18446744073709551616) : bits .or .u64 (d : Int) (x : Int) = ((d ||| x : Nat) : Int) := bits_or_u64_nat d x hd hx
theorem pow_lt {k : Nat} (h : k < 64) : 2 ^ k < 18446744073709551616 := by
  have := Nat.pow_lt_pow_right (a := 2) (by omega) h
  simpa using this
/-- Those of one day happen, in the order of their numbers. -/
def dayF (r : Reg) (n : Int) : Nat → List Int → Nat → Option Nat
  | _, [], d => some d
  | k, t :: ts, d => bif t != n then dayF r n (k + 1) ts d else bif !(canB r k d) then none else dayF r n (k + 1) ts (d ||| 2 ^ k)
def playF (r : Reg) (truth : List Int) : Nat → Nat → Nat → Option (List Nat)
  | 0, _, _ => some []
  | m + 1, n, d => match dayF r n 0 truth d with
    | none => none
    | some d' => match playF r truth m (n + 1) d' with
      | none => none
      | some ds => some (d' :: ds)
/-- What has happened at the end of each day. -/
def playDays (r : Reg) (truth : List Int) : Option (List Nat) := playF r truth 10 0 0
theorem zAn : ∀ (l : List D), allD (l.map .d) = some l
  | [] => rfl
  | x :: l => by simp only [List.map_cons, allD, zAn l]
def datedF : List Ent5 → List Int → Bool
  | [], [] => true
  | e :: es, t :: ts => (decide (e.lo ≤ t) && decide (t ≤ e.hi)) && datedF es ts
  | _, _ => false
theorem yn : ∀ {es : List Ent5} {ts : List Int}, datedF es ts = true → ts.length = es.length
  | [], [], _ => rfl
  | e :: es, t :: ts, h => by simp only [datedF, Bool.and_eq_true] at h; simp [yn h.2]
  | [], _ :: _, h => by simp [datedF] at h
  | _ :: _, [], h => by simp [datedF] at h
def seenB (n : Int) (p : List Int) (s : Sight5) : Bool := (s.day != n) || (p.getD s.sheet.toNat 0 == s.house)
theorem dropD {p : List Int} {k : Nat} {x : Int} (h : p[k]? = some x) : (p.map intD).drop (k * 1) = intD x :: (p.map intD).drop (k + 1) := by
  rw [Nat.mul_one]
  exact zAf (mget h)
theorem seen1_ok (n : Int) (p : List Int) (s : Sight5) (hp : p.length = 4) (h0 : 0 ≤ s.sheet) (h4 : s.sheet < 4) : PureAt Tryz.prog 150 [.agg (sightE s), .ptr [intD n], .ptr (p.map intD)] (.bool (seenB n p s)) := by
 refine PureAt.of_awp Tryz.func150 rfl (by kernel_rfl) (Nat.le_of_ble_eq_true rfl) fun Γ hn hl => ?_
 refine zC (zB ?_)
 refine stepW (zr 3 rfl rfl rfl (nb hn rfl) rfl rfl) fun b3 => ?_
 refine sq rfl rfl hn rfl (zF rfl rfl) ?_
 refine zE (zA (zC ?_))
 refine yC (W := fun b => b ≠ b3) fmo ?_
 refine d1q (i := 0) rfl (by kernel_rfl) (fun _ _ _ _ h => h) rfl rfl hn rfl (zH rfl rfl Tryz.underlying90 rfl sz3) ?_
 refine d1q (i := 1) rfl (by kernel_rfl) (fun _ _ _ _ h => h) rfl rfl hn rfl (zQ rfl rfl (id := 3) rfl Tryz.underlying3 rfl rfl (seesA (by simp))) ?_
 refine d1q (i := 2) rfl (by kernel_rfl) (fun _ _ _ _ h => h) rfl rfl hn rfl (zR rfl rfl Tryz.underlying3 rfl seesFA) ?_
 refine d1q (i := 3) rfl (by kernel_rfl) (fun _ _ _ _ h => h) rfl rfl hn rfl (yX rfl rfl rfl) ?_
 refine d1q (i := 4) rfl (by kernel_rfl) (fun _ _ _ _ h => h) rfl rfl hn rfl (zG rfl rfl) ?_
 refine d1g (i := 5) [] rfl (by kernel_rfl) (fun _ _ _ _ h => h) (zD rfl rfl rfl) rfl hn rfl (fun hc => trivial) (fun hc => zH rfl rfl Tryz.underlying90 rfl sz3) ?_
 refine d1g (i := 6) [(10, _)] rfl (by kernel_rfl) (fun _ _ _ _ h => h) (zD rfl rfl rfl) rfl hn rfl (fun hc => ⟨⟨_, rfl, hc⟩, trivial⟩) (fun hc => zQ rfl rfl (id := 3) rfl Tryz.underlying3 rfl rfl (seesA (by simp))) ?_
 refine d1g (i := 7) [(11, _)] rfl (by kernel_rfl) (fun _ _ _ _ h => h) (zD rfl rfl rfl) rfl hn rfl (fun hc => ⟨⟨_, rfl, hc⟩, trivial⟩) (fun hc => q_indexP (i := s.sheet.toNat) rfl rfl rfl Tryz.underlying151 sz3 (by omega) (by omega) (dropD (getD_some (by omega)))) ?_
 refine d1g (i := 8) [(12, _)] rfl (by kernel_rfl) (fun _ _ _ _ h => h) (zD rfl rfl rfl) rfl hn rfl (fun hc => ⟨⟨_, rfl, hc⟩, trivial⟩) (fun hc => zR rfl rfl Tryz.underlying3 rfl seesFA) ?_
 refine d1g (i := 9) [] rfl (by kernel_rfl) (fun _ _ _ _ h => h) (zD rfl rfl rfl) rfl hn rfl (fun hc => trivial) (fun hc => zH rfl rfl Tryz.underlying90 rfl sz3) ?_
 refine d1g (i := 10) [(14, _)] rfl (by kernel_rfl) (fun _ _ _ _ h => h) (zD rfl rfl rfl) rfl hn rfl (fun hc => ⟨⟨_, rfl, hc⟩, trivial⟩) (fun hc => zQ rfl rfl (id := 3) rfl Tryz.underlying3 rfl rfl (seesA (by simp))) ?_
 refine d1g (i := 11) [(13, _), (15, _)] rfl (by kernel_rfl) (fun _ _ _ _ h => h) (zD rfl rfl rfl) rfl hn rfl (fun hc => ⟨⟨_, rfl, hc⟩, ⟨_, rfl, hc⟩, trivial⟩) (fun hc => yG rfl rfl rfl) ?_
 refine d1q (i := 12) rfl (by kernel_rfl) (fun _ _ _ _ h => h) rfl rfl hn rfl (q_or rfl rfl rfl (by intro hB; first | (rw [hB]; rfl) | (rw [hB, hc]; rfl) | simp_all)) ?_
 refine d1q (i := 13) rfl (by kernel_rfl) (fun _ _ _ _ h => h) rfl rfl hn rfl (zF rfl rfl) ?_
 refine zM ?_
 refine zv (by kernel_rfl) ?_
 refine zA (zO ?_)
 exact zt (.inl rfl) hl rfl (.tmp rfl)
theorem seen_ok (r : Reg) (n : Int) (p : List Int) (v : Valid r) (hp : p.length = 4) : PureAt Tryz.prog 137 [regD r, .int .i64 n, .agg (p.map intD)] (.bool (r.sights.all (seenB n p))) := by
 refine PureAt.of_awp Tryz.func137 rfl (by kernel_rfl) (Nat.le_of_ble_eq_true rfl) fun Γ hn hl => ?_
 have hs4 := v.s4
 refine zC (zB ?_)
 refine stepW (zr 3 rfl rfl rfl (nb hn rfl) rfl rfl) fun b3 => ?_
 refine stepW (zr 4 rfl rfl rfl (nb hn rfl) rfl rfl) fun b4 => ?_
 refine stepW (zr 5 rfl rfl rfl (nb hn rfl) rfl rfl) fun b5 => ?_
 refine sq rfl rfl hn rfl (zF rfl rfl) ?_
 refine zE (zA (zC (zB ?_)))
 refine sq rfl rfl hn rfl (zH rfl rfl Tryz.underlying44 rfl sz42) ?_
 refine sq rfl rfl hn rfl (zQ rfl rfl (id := 3) rfl Tryz.underlying42 rfl rfl sees0) ?_
 refine kM (zn (t := 4) 4 rfl (nb hn rfl) rfl rfl trivial) ?_
 refine kM (zn (t := 5) 5 rfl (nb hn rfl) rfl (zAn _) trivial) ?_
 refine sq rfl rfl hn rfl (yE rfl rfl rfl) ?_
 refine stepW (s_call [] (fun _ => zCn r.sights (seenB n p) 150 [] [.ptr [intD n], .ptr (p.map intD)] (fun s hs => have := v.si s hs; seen1_ok n p s hp (by omega) (by omega))) rfl (zI rfl) rfl (nb hn rfl) (fun _ => trivial) rfl rfl (.refl _)) fun _ => ?_
 refine sq rfl rfl hn rfl (zF rfl rfl) ?_
 refine zE (zA (zO ?_))
 exact zt (.inl rfl) hl rfl (.tmp rfl)
theorem fill_int {x : Int} {zs : List TV} (hz : zs.length = 1) : fillTV (fun i => some (i * 1, 1)) zs [(0, .d (.int .i64 x))] = some [.d (.int .i64 x)] := by
  simp only [fillTV, TV.cells, hz, TV.flat]
  rw [List.drop_of_length_le (by omega)]
  simp [Nat.beq, Nat.ble, TV.one, D.one]
theorem fill_d {x : D} {zs : List TV} (hz : zs.length = 1) (hx : TV.cells (.d x) = [.d x]) (h1 : x.one = true) (hf : TV.flat (.d x) = true) : fillTV (fun i => some (i * 1, 1)) zs [(0, .d x)] = some [.d x] := by
  simp only [fillTV, hx, hz, hf]
  rw [List.drop_of_length_le (by omega)]
  simp [Nat.beq, Nat.ble]
def seenAll (r : Reg) : Nat → List Nat → Bool
  | _, [] => true
  | n, d :: ds => r.sights.all (seenB n (placesA r d)) && seenAll r (n + 1) ds
end Go.Proofs.YtaokpncjemkhcaaGreat
namespace Go.Proofs.YtaokpncjemkhcaaGreat
open Go.RowKit
set_option maxRecDepth 20000
set_option linter.all false
/-- How many days an entry's range has. -/
def span (e : Ent5) : Nat := (e.hi - e.lo + 1).toNat
def manyN : List Ent5 → Nat
  | [] => 1
  | e :: es => span e * manyN es
/-- The list of days with a number. -/
def nthL : List Ent5 → Nat → List Int
  | [], _ => []
  | e :: es, n => (e.lo + ((n % span e : Nat) : Int)) :: nthL es (n / span e)
end Go.Proofs.YtaokpncjemkhcaaGreat
namespace Go.Proofs.YtaokpncjemkhcaaGreat
open Go.RowKit
set_option maxRecDepth 20000
set_option linter.all false
def upd (l : List Int) (k : Nat) (x : Int) : List Int := l.set k (l.getD k 0 + x)
abbrev RSt := List Int × List Int
/-- An entry happens, if it can. -/
def refStep (e : Ent5) (st : RSt) : Option RSt :=
  bif (st.1.getD e.sheet.toNat 0 != e.frm) || ((e.kind == 2) && decide (st.2.getD (e.to.toNat * 4 + e.frm.toNat) 0 < 1)) then none
  else some (st.1.set e.sheet.toNat e.to, bif e.kind == 2 then upd (bif e.kind == 1 then upd st.2 (e.frm.toNat * 4 + e.to.toNat) 1 else st.2) (e.to.toNat * 4 + e.frm.toNat) (-1) else (bif e.kind == 1 then upd st.2 (e.frm.toNat * 4 + e.to.toNat) 1 else st.2))
def refDayF (day : Int) : List Ent5 → List Int → RSt → Option RSt
  | [], _, st => some st
  | e :: es, t :: ts, st => bif t != day then refDayF day es ts st else match refStep e st with
    | none => none
    | some st' => refDayF day es ts st'
  | _ :: _, [], st => some st
def splice (o : List Int) (k n : Nat) (l : List Int) : List Int := o.take k ++ l ++ o.drop (k + n)
def putDay (out : List Int) (day : Nat) (st : RSt) : List Int := splice (splice out (day * 4) 4 st.1) (40 + day * 16) 16 st.2
def refPlayF (r : Reg) (l : List Int) : Nat → Nat → List Int → RSt → List Int × Bool
  | 0, _, out, _ => (out, true)
  | m + 1, day, out, st => match refDayF day r.entries l st with
    | none => (out, false)
    | some st' => refPlayF r l m (day + 1) (putDay out day st') st'
def startA (r : Reg) (i : Nat) : List Int := r.start.take i ++ List.replicate (4 - i) 0
def refPlay (r : Reg) (l : List Int) : List Int × Bool := refPlayF r l 10 0 (List.replicate 200 0) (startA r r.start.length, List.replicate 16 0)
theorem kN {o l : List Int} {k n : Nat} (h : k + n ≤ o.length) (hl : l.length = n) : (splice o k n l).length = o.length := by
  simp [splice, hl]
  omega
theorem startA_len {r : Reg} {i : Nat} (h : i ≤ r.start.length) (h4 : r.start.length ≤ 4) : (startA r i).length = 4 := by
  simp [startA]
  omega
theorem upd_len (l : List Int) (k : Nat) (x : Int) : (upd l k x).length = l.length := by simp [upd]
def houseAt (o : List Int) (day s : Nat) : Int := o.getD (day * 4 + s) 0
def openAt (o : List Int) (day a b : Nat) : Int := o.getD (40 + day * 16 + a * 4 + b) 0
theorem putDay_len {out : List Int} {day : Nat} {st : RSt} (hd : day < 10) (ho : out.length = 200) (h1 : st.1.length = 4) (h2 : st.2.length = 16) : (putDay out day st).length = 200 := by
  unfold putDay
  rw [kN (by rw [kN (by omega) h1]; omega) h2, kN (by omega) h1, ho]
def sightOK (o : List Int) (s : Sight5) : Bool := houseAt o s.day.toNat s.sheet.toNat == s.house
def isTruthB (r : Reg) (l : List Int) : Bool := datedF r.entries l && ((refPlay r l).2 && r.sights.all (sightOK (refPlay r l).1))
def truthsF (r : Reg) (n : Nat) : List (List Int) := ((List.range n).map (nthL r.entries)).filter (isTruthB r)
/-- All truths. -/
def truths (r : Reg) : List (List Int) := truthsF r (manyN r.entries)
def daysOf (r : Reg) (t : List Int) : List Int := (refPlay r t).1
def allDays (r : Reg) : List (List Int) := (truths r).map (daysOf r)
theorem zCX {n : Nat} {ds : List D} {zs : List TV} (hz : zs.length = n) (hd : ds.length = n) : fillTV (fun i => some (i * n, n)) zs [(0, .d (.agg ds))] = some (ds.map .d) := by
  have h1 : Nat.beq n n = true := Nat.beq_refl n
  have h2 : Nat.ble n n = true := by simp
  simp only [fillTV, TV.cells, List.length_map, hd, hz, TV.flat, Nat.zero_mul, Nat.zero_add, h1, h2]
  rw [List.drop_of_length_le (by omega)]
  simp
theorem zCx {n : Nat} {ds : List D} (hd : ds.length = n) : chunk n 1 ds = [ds] := by
  simp only [chunk]
  rw [List.take_of_length_le (by omega)]
theorem zEE {n : Nat} {ds : List D} (hd : ds.length = n) : Nat.beq ds.length (1 * n) = true := by rw [hd, Nat.one_mul]; exact Nat.beq_refl n
def refHolders (r : Reg) (all : List (List Int)) (s day : Nat) (h : Nat) : List Int := ((List.range h).filter fun (h : Nat) => all.any fun o => houseAt o day s == (h : Int)).map Int.ofNat
theorem any_take {α : Type} {l : List α} {p : α → Bool} {i : Nat} {x : α} (h : l[i]? = some x) : (l.take (i + 1)).any p = ((l.take i).any p || p x) := by rw [List.take_add_one, h]; simp [List.any_append]
end Go.Proofs.YtaokpncjemkhcaaGreat
namespace Go.Proofs.YtaokpncjemkhcaaGreat
open Go.RowKit
set_option maxRecDepth 20000
set_option linter.all false
def seeingR (r : Reg) (s : Sight5) : Reg := ⟨r.houses, r.start, r.entries, r.sights ++ [s]⟩
theorem zDg {α β : Type} {l : List α} {f : α → β} {i : Nat} {x : α} (h : l[i]? = some x) : (l.take i).map f ++ [f x] = (l.take (i + 1)).map f := by rw [List.take_add_one, h]; simp
theorem zr44 : (Tryz.prog.info? 44).map (·.zero) = some (some (.agg #[(.int .i64 0), (.slice none 0 0), (.slice none 0 0), (.slice none 0 0)])) := by kernel_rfl
theorem zr37 : (Tryz.prog.info? 37).map (·.zero) = some (some (.agg #[(.int .i64 0), (.int .i64 0)])) := by kernel_rfl
theorem zr90 : (Tryz.prog.info? 90).map (·.zero) = some (some (.agg #[(.int .i64 0), (.int .i64 0), (.int .i64 0)])) := by kernel_rfl
theorem bt44 : BT Tryz.prog 44 (.agg #[(.int .i64 0), (.slice none 0 0), (.slice none 0 0), (.slice none 0 0)]) (fun i => ([(0, 1), (1, 1), (2, 1), (3, 1)] : List (Nat × Nat))[i]?) := yO Tryz.underlying44 zr44 (by kernel_rfl)
theorem bt37 : BT Tryz.prog 37 (.agg #[(.int .i64 0), (.int .i64 0)]) (fun i => ([(0, 1), (1, 1)] : List (Nat × Nat))[i]?) := yO Tryz.underlying37 zr37 (by kernel_rfl)
theorem bt90 : BT Tryz.prog 90 (.agg #[(.int .i64 0), (.int .i64 0), (.int .i64 0)]) (fun i => ([(0, 1), (1, 1), (2, 1)] : List (Nat × Nat))[i]?) := yO Tryz.underlying90 zr90 (by kernel_rfl)
theorem bt87 : BT Tryz.prog 87 (.agg #[(.int .i64 0), (.int .i64 0), (.int .i64 0), (.int .i64 0), (.int .i64 0), (.int .i64 0)]) (fun i => ([(0, 1), (1, 1), (2, 1), (3, 1), (4, 2)] : List (Nat × Nat))[i]?) := yO Tryz.underlying87 zr87 (by kernel_rfl)
theorem elt41 : ElT Tryz.prog 41 87 6 48 := zAs Tryz.underlying41 (z := (.agg #[(.int .i64 0), (.int .i64 0), (.int .i64 0), (.int .i64 0), (.int .i64 0), (.int .i64 0)])) (by kernel_rfl) rfl (by decide)
theorem elt42 : ElT Tryz.prog 42 90 3 24 := zAs Tryz.underlying42 (z := (.agg #[(.int .i64 0), (.int .i64 0), (.int .i64 0)])) (by kernel_rfl) rfl (by decide)
theorem zED (l : List Int) (h5 : l.length ≤ 1000000) : PureAt Tryz.prog 58 [ints l] (ints l) := by
 refine PureAt.of_awp Tryz.func58 rfl (by kernel_rfl) (Nat.le_of_ble_eq_true rfl) fun Γ hn hl => ?_
 refine zC (zB ?_)
 refine sq rfl rfl hn rfl (zF rfl rfl) ?_
 refine zE (zA (zC (zB ?_)))
 refine stepW (s_buildRow 3 rfl rfl rfl (nb hn rfl) Tryz.underlying22 sz3 zr3 rfl rfl rfl (show _ = [] from by kernel_rfl) (by kernel_rfl) rfl rfl (show allD _ = some [] from by kernel_rfl) rfl rfl) fun v3 => ?_
 refine sq rfl rfl hn rfl (zG rfl rfl) ?_
 refine stepW (s_append (id := 3) rfl rfl rfl (nb hn rfl) elt22 trivial rfl rfl rfl (by simp [chunk]; omega) (by simp [chunk]; omega) (fun b hb => trivial)) fun v5 => ?_
 refine sq rfl rfl hn rfl (zF rfl rfl) ?_
 refine zE (zA (zO ?_))
 refine kF (g_row (t := 2) (id := 3) rfl rfl) ?_
 refine zp (zt (.inl rfl) hl rfl (.tmp rfl)) ?_
 rfl
theorem Register_ok (r : Reg) (h1 : r.start.length ≤ 1000000) (h2 : r.entries.length ≤ 1000000) (h3 : r.sights.length ≤ 1000000) : PureAt Tryz.prog 20 [regD r] (regD r) := by
 refine PureAt.of_awp Tryz.func20 rfl (by kernel_rfl) (Nat.le_of_ble_eq_true rfl) fun Γ hn hl => ?_
 refine zC (zB ?_)
 refine stepW (zr 1 rfl rfl rfl (nb hn rfl) rfl rfl) fun b1 => ?_
 refine stepW (zh 2 rfl rfl rfl (nb hn rfl) zr44 rfl rfl) fun b2 => ?_
 refine zE (zA (zC ?_))
 refine yR (e := .normal) (ι := Nat) (fun b3 => (3, true, .val (.pointer (some ⟨b3, 0, none⟩))) :: anys [8, 9, 10, 11, 12, 13]) (fun b3 => [(3, .box b3 44 [.d (.int .i64 r.houses), .d (ints r.start), .d .nil, .d .nil])]) (fun hJ0 => ?_) ?_
 ·
  refine yC (W := fun b => b ≠ b1) fmo ?_
  refine d1q (i := 0) rfl (by kernel_rfl) (fun _ _ _ _ h => h) rfl rfl hn rfl (zH rfl rfl Tryz.underlying26 rfl sz3) ?_
  refine d1q (i := 1) rfl (by kernel_rfl) (fun _ _ _ _ h => h) rfl rfl hn rfl (zQ rfl rfl (id := 1) rfl Tryz.underlying3 rfl rfl (seesA (by simp))) ?_
  refine d1q (i := 2) rfl (by kernel_rfl) (fun _ _ _ _ h => h) rfl rfl hn rfl (zH rfl rfl Tryz.underlying26 rfl sz22) ?_
  refine d1q (i := 3) rfl (by kernel_rfl) (fun _ _ _ _ h => h) rfl rfl hn rfl (zQ rfl rfl (id := 1) rfl Tryz.underlying22 rfl rfl (seesA (by simp))) ?_
  refine zM ?_
  refine yx 4 [6] (by kernel_rfl) ⟨?_, ?_, trivial⟩
  ·
   refine br rfl (s_call [] (fun _ => zED _ (by omega)) rfl (zI rfl) rfl (nb hn rfl) (fun _ => trivial) rfl rfl (.refl _)) fun _ => ?_
   refine d2_of_d1 ?_
   refine d1q (i := 5) rfl (by kernel_rfl) (fun _ _ _ _ h => h) rfl rfl hn rfl (zg rfl bt44 rfl rfl rfl rfl rfl) ?_
   refine zM ?_
   refine zk (i := 6) (by kernel_rfl) rfl (zh 3 rfl rfl rfl (nb hn rfl) zr44 rfl rfl) fun b3 => ?_
   refine d2_of_d1 (zM ?_)
   refine kH (i := 3) (j := 1) rfl rfl rfl (fun hne3_1 => ?_)
   refine zk (i := 7) (by kernel_rfl) rfl (zl rfl rfl rfl rfl rfl rfl (id := 3) rfl sz44 rfl (Nat.le_of_ble_eq_true rfl) rfl (fun e => hne3_1 _ rfl (congrArg some e.symm))) fun _ => ?_
   refine d2_of_d1 (zM ?_)
   refine zv (by kernel_rfl) ?_
   exact aend_join_on hJ0 b3 ⟨.inl rfl, zJ _⟩ ⟨.inl rfl, trivial⟩ (by repeat (first | exact kr _ | refine kc rfl ?_)) (by repeat (first | exact kr _ | refine kc rfl ?_))
  ·
   refine br rfl (zh 3 rfl rfl rfl (nb hn rfl) zr44 rfl rfl) fun b3 => ?_
   refine d2_of_d1 (zM ?_)
   refine zk (i := 4) (by kernel_rfl) rfl (s_call [] (fun _ => zED _ (by omega)) rfl (zI rfl) rfl (nb hn rfl) (fun _ => trivial) rfl rfl (.refl _)) fun _ => ?_
   refine d2_of_d1 ?_
   refine d1q (i := 5) rfl (by kernel_rfl) (fun _ _ _ _ h => h) rfl rfl hn rfl (zg rfl bt44 rfl rfl rfl rfl rfl) ?_
   refine zM ?_
   refine kH (i := 3) (j := 1) rfl rfl rfl (fun hne3_1 => ?_)
   refine zk (i := 7) (by kernel_rfl) rfl (zl rfl rfl rfl rfl rfl rfl (id := 3) rfl sz44 rfl (Nat.le_of_ble_eq_true rfl) rfl (fun e => hne3_1 _ rfl (congrArg some e.symm))) fun _ => ?_
   refine d2_of_d1 (zM ?_)
   refine zv (by kernel_rfl) ?_
   exact aend_join_on hJ0 b3 ⟨.inl rfl, zJ _⟩ ⟨.inl rfl, trivial⟩ (by repeat (first | exact kr _ | refine kc rfl ?_)) (by repeat (first | exact kr _ | refine kc rfl ?_))
 ·
  rintro b3
  refine zA (zC (zC ?_))
  refine zx (gh_nilcell (id := 3) (k := 2) 302 87 6 rfl rfl) ?_
  refine zx (gh_nilcell (id := 3) (k := 3) 303 90 3 rfl rfl) ?_
  refine zB ?_
  refine sq rfl rfl hn rfl (zF rfl rfl) ?_
  refine zE (zA (zV ?_))
  refine awp_loop_on (ι := { x : Nat × Value // x.1 ≤ r.entries.length }) (fun x => (4, true, .d (.int .i64 (x.1.1 : Nat))) :: anys [14, 15, 16, 17, 18, 21, 22, 23, 24, 25, 5, 26, 27, 28, 29, 30, 31, 32, 33, 34, 35, 36, 37, 38, 39, 40, 41, 42, 43, 44, 45, 46, 19, 20]) (fun x => (3, .box b3 44 [.d (.int .i64 r.houses), .d (ints r.start), .val x.1.2, .val (.slice none 0 0)]) :: (302, .row x.1.2 87 6 ((r.entries.take x.1.1).map entE)) :: gones [5]) (fun x => r.entries.length - x.1.1) ⟨(0, .slice none 0 0), by simp⟩ ⟨.inl rfl, zJ _⟩ ⟨.inl rfl, .inl rfl, zX _⟩ ?_
  rintro ⟨⟨i, vv⟩, hi⟩
  dsimp only
  dsimp only at hi
  refine zC (zC (zB ?_))
  refine sq rfl rfl hn rfl (zG rfl rfl) ?_
  refine sq rfl rfl hn rfl (zH rfl rfl Tryz.underlying26 rfl sz23) ?_
  refine sq rfl rfl hn rfl (zQ rfl rfl (id := 1) rfl Tryz.underlying23 rfl rfl sees0) ?_
  refine sq rfl rfl hn rfl (z7 rfl rfl Tryz.underlying23) ?_
  refine sq rfl rfl hn rfl (yJ rfl rfl rfl) ?_
  refine zE (zA ?_)
  refine zS rfl (fun hb1 => ?_) (fun hb1 => ?_)
  ·
   try simp only [decide_eq_true_eq, decide_eq_false_iff_not, Bool.and_eq_true, Bool.or_eq_true, Bool.and_eq_false_iff, Bool.or_eq_false_iff, Bool.not_eq_true', Bool.not_eq_false', beq_iff_eq, bne_iff_ne, ne_eq, beq_eq_false_iff_ne, bne_eq_false_iff_eq, Int.not_lt, Int.not_le] at hb1
   have hlt : i < r.entries.length := by simpa using hb1
   obtain ⟨x, hx⟩ := z2 hlt
   refine zU (zA (zC (zV (zC (zB ?_)))))
   refine sq rfl rfl hn rfl (zH rfl rfl Tryz.underlying26 rfl sz23) ?_
   refine sq rfl rfl hn rfl (zQ rfl rfl (id := 1) rfl Tryz.underlying23 rfl rfl sees0) ?_
   refine sq rfl rfl hn rfl (zG rfl rfl) ?_
   refine sq rfl rfl hn rfl (q_index rfl rfl rfl Tryz.underlying23 sz105 rfl (mget hx)) ?_
   refine sq rfl rfl hn rfl (ze rfl rfl Tryz.underlying105 rfl sz105 rfl rfl seesF0) ?_
   refine stepW (zh 5 rfl rfl rfl (nb hn rfl) zr105 rfl rfl) fun b5 => ?_
   refine stepW (zl rfl rfl rfl rfl rfl rfl (id := 5) rfl sz105 rfl (Nat.le_of_ble_eq_true rfl) rfl trivial) fun _ => ?_
   refine zE (zA (zB ?_))
   refine sq rfl rfl hn rfl (zH rfl rfl Tryz.underlying44 rfl sz41) ?_
   refine sq rfl rfl hn rfl (zQ rfl rfl (id := 3) rfl Tryz.underlying41 rfl rfl sees0) ?_
   refine sq rfl rfl hn rfl (zH rfl rfl Tryz.underlying105 rfl sz3) ?_
   refine sq rfl rfl hn rfl (zQ rfl rfl (id := 5) rfl Tryz.underlying3 rfl rfl sees0) ?_
   refine sq rfl rfl hn rfl (zH rfl rfl Tryz.underlying105 rfl sz3) ?_
   refine sq rfl rfl hn rfl (zQ rfl rfl (id := 5) rfl Tryz.underlying3 rfl rfl sees0) ?_
   refine sq rfl rfl hn rfl (zH rfl rfl Tryz.underlying105 rfl sz3) ?_
   refine sq rfl rfl hn rfl (zQ rfl rfl (id := 5) rfl Tryz.underlying3 rfl rfl sees0) ?_
   refine sq rfl rfl hn rfl (zH rfl rfl Tryz.underlying105 rfl sz3) ?_
   refine sq rfl rfl hn rfl (zQ rfl rfl (id := 5) rfl Tryz.underlying3 rfl rfl sees0) ?_
   refine sq rfl rfl hn rfl (zH rfl rfl Tryz.underlying105 rfl sz103) ?_
   refine sq rfl rfl hn rfl (zH rfl rfl Tryz.underlying103 rfl sz3) ?_
   refine sq rfl rfl hn rfl (zQ rfl rfl (id := 5) rfl Tryz.underlying3 rfl rfl sees0) ?_
   refine sq rfl rfl hn rfl (zH rfl rfl Tryz.underlying105 rfl sz103) ?_
   refine sq rfl rfl hn rfl (zH rfl rfl Tryz.underlying103 rfl sz3) ?_
   refine sq rfl rfl hn rfl (zQ rfl rfl (id := 5) rfl Tryz.underlying3 rfl rfl sees0) ?_
   refine sq rfl rfl hn rfl (zg rfl bt37 rfl rfl rfl rfl rfl) ?_
   refine sq rfl rfl hn rfl (zg rfl bt87 rfl rfl rfl rfl rfl) ?_
   refine stepW (zP rfl rfl rfl (nb hn rfl) Tryz.underlying41 sz87 zr87 rfl rfl rfl (show _ = [.d (.int .i64 0), .d (.int .i64 0), .d (.int .i64 0), .d (.int .i64 0), .d (.int .i64 0), .d (.int .i64 0)] from by kernel_rfl) (by kernel_rfl) rfl (zCX (by kernel_rfl) rfl) (zAn _) (zEE rfl) (zCx rfl)) fun _ => ?_
   refine stepW (s_append (id := 302) rfl rfl rfl (nb hn rfl) elt41 trivial rfl rfl rfl (by simp [List.length_take]; omega) (by simp [List.length_take]; omega) (fun b hb => trivial)) fun v45 => ?_
   refine sq rfl rfl hn rfl (zH rfl rfl Tryz.underlying44 rfl sz41) ?_
   refine stepW (s_storeRow rfl rfl rfl rfl rfl (rid := 302) rfl (id := 3) rfl sz41 (Nat.le_of_ble_eq_true rfl) rfl trivial) fun _ => ?_
   refine zE (za (zA (zB ?_)))
   refine sq rfl rfl hn rfl (zG rfl rfl) ?_
   refine sq rfl rfl hn rfl (z6 rfl rfl rfl (r := ((i + 1 : Nat) : Int)) (i64w (by omega) (by omega))) ?_
   refine sq rfl rfl hn rfl (zF rfl rfl) ?_
   refine zE ?_
   exact zZ ⟨(i + 1, v45), by simp only; omega⟩ ⟨.inl rfl, zJ _⟩ ⟨.inl rfl, .inl (congrArg (fun z => some (Res.row v45 87 6 z)) (zDg hx)), zX _⟩ (by simp only; omega) (by repeat (first | exact kr _ | refine kc rfl ?_)) (by repeat (first | exact kr _ | refine kc rfl ?_))
  ·
   try simp only [decide_eq_true_eq, decide_eq_false_iff_not, Bool.and_eq_true, Bool.or_eq_true, Bool.and_eq_false_iff, Bool.or_eq_false_iff, Bool.not_eq_true', Bool.not_eq_false', beq_iff_eq, bne_iff_ne, ne_eq, beq_eq_false_iff_ne, bne_eq_false_iff_eq, Int.not_lt, Int.not_le] at hb1
   have hie : i = r.entries.length := by simp only [List.length_map] at hb1; omega
   subst hie; rw [List.take_length]
   refine zw (zK (zK (zW (zA (zC (zC (zB ?_)))))))
   refine sq rfl rfl hn rfl (zF rfl rfl) ?_
   refine zE (zA (zV ?_))
   refine awp_loop_on (ι := { x : Nat × Value // x.1 ≤ r.sights.length }) (fun x => (6, true, .d (.int .i64 (x.1.1 : Nat))) :: anys [47, 48, 49, 50, 51, 54, 55, 56, 57, 58, 7, 59, 60, 61, 62, 63, 64, 65, 66, 67, 68, 69, 70, 52, 53]) (fun x => (3, .box b3 44 [.d (.int .i64 r.houses), .d (ints r.start), .val vv, .val x.1.2]) :: (303, .row x.1.2 90 3 ((r.sights.take x.1.1).map sightE)) :: gones [7]) (fun x => r.sights.length - x.1.1) ⟨(0, .slice none 0 0), by simp⟩ ⟨.inl rfl, zJ _⟩ ⟨.inl rfl, .inl rfl, zX _⟩ ?_
   rintro ⟨⟨i, vw⟩, hi⟩
   dsimp only
   dsimp only at hi
   refine zC (zC (zB ?_))
   refine sq rfl rfl hn rfl (zG rfl rfl) ?_
   refine sq rfl rfl hn rfl (zH rfl rfl Tryz.underlying26 rfl sz24) ?_
   refine sq rfl rfl hn rfl (zQ rfl rfl (id := 1) rfl Tryz.underlying24 rfl rfl sees0) ?_
   refine sq rfl rfl hn rfl (z7 rfl rfl Tryz.underlying24) ?_
   refine sq rfl rfl hn rfl (yJ rfl rfl rfl) ?_
   refine zE (zA ?_)
   refine zS rfl (fun hb2 => ?_) (fun hb2 => ?_)
   ·
    try simp only [decide_eq_true_eq, decide_eq_false_iff_not, Bool.and_eq_true, Bool.or_eq_true, Bool.and_eq_false_iff, Bool.or_eq_false_iff, Bool.not_eq_true', Bool.not_eq_false', beq_iff_eq, bne_iff_ne, ne_eq, beq_eq_false_iff_ne, bne_eq_false_iff_eq, Int.not_lt, Int.not_le] at hb2
    have hlt : i < r.sights.length := by simpa using hb2
    obtain ⟨x, hx⟩ := z2 hlt
    refine zU (zA (zC (zV (zC (zB ?_)))))
    refine sq rfl rfl hn rfl (zH rfl rfl Tryz.underlying26 rfl sz24) ?_
    refine sq rfl rfl hn rfl (zQ rfl rfl (id := 1) rfl Tryz.underlying24 rfl rfl sees0) ?_
    refine sq rfl rfl hn rfl (zG rfl rfl) ?_
    refine sq rfl rfl hn rfl (q_index rfl rfl rfl Tryz.underlying24 sz106 rfl (mget hx)) ?_
    refine sq rfl rfl hn rfl (ze rfl rfl Tryz.underlying106 rfl sz106 rfl rfl seesF0) ?_
    refine stepW (zh 7 rfl rfl rfl (nb hn rfl) zr106 rfl rfl) fun b7 => ?_
    refine stepW (zl rfl rfl rfl rfl rfl rfl (id := 7) rfl sz106 rfl (Nat.le_of_ble_eq_true rfl) rfl trivial) fun _ => ?_
    refine zE (zA (zB ?_))
    refine sq rfl rfl hn rfl (zH rfl rfl Tryz.underlying44 rfl sz42) ?_
    refine sq rfl rfl hn rfl (zQ rfl rfl (id := 3) rfl Tryz.underlying42 rfl rfl sees0) ?_
    refine sq rfl rfl hn rfl (zH rfl rfl Tryz.underlying106 rfl sz3) ?_
    refine sq rfl rfl hn rfl (zQ rfl rfl (id := 7) rfl Tryz.underlying3 rfl rfl sees0) ?_
    refine sq rfl rfl hn rfl (zH rfl rfl Tryz.underlying106 rfl sz3) ?_
    refine sq rfl rfl hn rfl (zQ rfl rfl (id := 7) rfl Tryz.underlying3 rfl rfl sees0) ?_
    refine sq rfl rfl hn rfl (zH rfl rfl Tryz.underlying106 rfl sz3) ?_
    refine sq rfl rfl hn rfl (zQ rfl rfl (id := 7) rfl Tryz.underlying3 rfl rfl sees0) ?_
    refine sq rfl rfl hn rfl (zg rfl bt90 rfl rfl rfl rfl rfl) ?_
    refine stepW (zP rfl rfl rfl (nb hn rfl) Tryz.underlying42 sz90 zr90 rfl rfl rfl (show _ = [.d (.int .i64 0), .d (.int .i64 0), .d (.int .i64 0)] from by kernel_rfl) (by kernel_rfl) rfl (zCX (by kernel_rfl) rfl) (zAn _) (zEE rfl) (zCx rfl)) fun _ => ?_
    refine stepW (s_append (id := 303) rfl rfl rfl (nb hn rfl) elt42 trivial rfl rfl rfl (by simp [List.length_take]; omega) (by simp [List.length_take]; omega) (fun b hb => trivial)) fun v69 => ?_
    refine sq rfl rfl hn rfl (zH rfl rfl Tryz.underlying44 rfl sz42) ?_
    refine stepW (s_storeRow rfl rfl rfl rfl rfl (rid := 303) rfl (id := 3) rfl sz42 (Nat.le_of_ble_eq_true rfl) rfl trivial) fun _ => ?_
    refine zE (za (zA (zB ?_)))
    refine sq rfl rfl hn rfl (zG rfl rfl) ?_
    refine sq rfl rfl hn rfl (z6 rfl rfl rfl (r := ((i + 1 : Nat) : Int)) (i64w (by omega) (by omega))) ?_
    refine sq rfl rfl hn rfl (zF rfl rfl) ?_
    refine zE ?_
    exact zZ ⟨(i + 1, v69), by simp only; omega⟩ ⟨.inl rfl, zJ _⟩ ⟨.inl rfl, .inl (congrArg (fun z => some (Res.row v69 90 3 z)) (zDg hx)), zX _⟩ (by simp only; omega) (by repeat (first | exact kr _ | refine kc rfl ?_)) (by repeat (first | exact kr _ | refine kc rfl ?_))
   ·
    try simp only [decide_eq_true_eq, decide_eq_false_iff_not, Bool.and_eq_true, Bool.or_eq_true, Bool.and_eq_false_iff, Bool.or_eq_false_iff, Bool.not_eq_true', Bool.not_eq_false', beq_iff_eq, bne_iff_ne, ne_eq, beq_eq_false_iff_ne, bne_eq_false_iff_eq, Int.not_lt, Int.not_le] at hb2
    have hie : i = r.sights.length := by simp only [List.length_map] at hb2; omega
    subst hie; rw [List.take_length]
    refine zw (zK (zK (zW (zA (zC ?_)))))
    refine zx (gh_rowcell (id := 3) (k := 2) (rid := 302) rfl rfl rfl) ?_
    refine zx (gh_rowcell (id := 3) (k := 3) (rid := 303) rfl rfl rfl) ?_
    refine zB ?_
    refine sq rfl rfl hn rfl (zY rfl rfl (id := 3) rfl Tryz.underlying44 rfl sz44 rfl rfl sees0) ?_
    refine stepW (zl rfl rfl rfl rfl rfl rfl (id := 2) rfl sz44 rfl (Nat.le_of_ble_eq_true rfl) rfl trivial) fun _ => ?_
    refine zE (zA (zO ?_))
    exact zt (.inl rfl) hl rfl (.cellA rfl (id := 2) rfl Tryz.underlying44 rfl sz44 rfl rfl)
def minL (x : Int) (l : List Int) : Int := l.foldl min x
theorem minL_take {x y : Int} {l : List Int} {i : Nat} (h : l[i]? = some y) : min (minL x (l.take i)) y = minL x (l.take (i + 1)) := by simp [minL, List.take_add_one, h, List.foldl_append]
theorem Min_ok (x : Int) (l : List Int) : PureAt Tryz.prog 104 [ints (x :: l)] (.int .i64 (minL x l)) := by
 refine PureAt.of_awp' Tryz.func104 rfl (by kernel_rfl) rfl fun hlen Γ hn hl => ?_
 have hl5 := hlen.1; simp only [List.length_map, List.length_cons] at hl5
 refine zC (zB ?_)
 refine sq rfl rfl hn rfl (zF rfl rfl) ?_
 refine zE (zA (zC (zC (zB ?_))))
 refine sq rfl rfl hn rfl (zG rfl rfl) ?_
 refine sq rfl rfl hn rfl (z7 rfl rfl Tryz.underlying22) ?_
 refine sq rfl rfl hn rfl (yJ rfl rfl rfl) ?_
 refine zE (zA ?_)
 refine zS rfl (fun hb0 => ?_) (fun hb0 => ?_)
 ·
  exfalso; simp at hb0; omega
 ·
  try simp only [decide_eq_true_eq, decide_eq_false_iff_not, Bool.and_eq_true, Bool.or_eq_true, Bool.and_eq_false_iff, Bool.or_eq_false_iff, Bool.not_eq_true', Bool.not_eq_false', beq_iff_eq, bne_iff_ne, ne_eq, beq_eq_false_iff_ne, bne_eq_false_iff_eq, Int.not_lt, Int.not_le] at hb0
  refine zU (zA (zC (zB ?_)))
  refine sq rfl rfl hn rfl (zG rfl rfl) ?_
  refine sq rfl rfl hn rfl (q_index (i := 0) rfl rfl rfl Tryz.underlying22 sz3 rfl rfl) ?_
  refine sq rfl rfl hn rfl (zR rfl rfl Tryz.underlying3 rfl seesF0) ?_
  refine sq rfl rfl hn rfl (zF rfl rfl) ?_
  refine zE (zA (zC (zC (zB ?_))))
  refine sq rfl rfl hn rfl (zF rfl rfl) ?_
  refine zE (zA (zV ?_))
  refine awp_loop_on (ι := { i : Nat // i ≤ l.length }) (fun y => (4, true, .d (.int .i64 ((y.1 + 1 : Nat) : Int))) :: (3, true, .d (.int .i64 (minL x (l.take y.1)))) :: anys [12, 13, 14, 15, 18, 19, 20, 21, 22, 23, 16, 17]) (fun y => []) (fun y => l.length - y.1) ⟨0, by simp⟩ ⟨.inl rfl, .inl rfl, zJ _⟩ trivial ?_
  rintro ⟨i, hi⟩
  dsimp only
  refine zC (zC (zB ?_))
  refine sq rfl rfl hn rfl (zG rfl rfl) ?_
  refine sq rfl rfl hn rfl (zG rfl rfl) ?_
  refine sq rfl rfl hn rfl (z7 rfl rfl Tryz.underlying22) ?_
  refine sq rfl rfl hn rfl (yJ rfl rfl rfl) ?_
  refine zE (zA ?_)
  refine zS rfl (fun hb1 => ?_) (fun hb1 => ?_)
  ·
   try simp only [decide_eq_true_eq, decide_eq_false_iff_not, Bool.and_eq_true, Bool.or_eq_true, Bool.and_eq_false_iff, Bool.or_eq_false_iff, Bool.not_eq_true', Bool.not_eq_false', beq_iff_eq, bne_iff_ne, ne_eq, beq_eq_false_iff_ne, bne_eq_false_iff_eq, Int.not_lt, Int.not_le] at hb1
   have hlt : i < l.length := by simp at hb1; omega
   obtain ⟨y, hy⟩ := z2 hlt
   refine zU (zA (zC (zV (zB ?_))))
   refine sq rfl rfl hn rfl (zG rfl rfl) ?_
   refine sq rfl rfl hn rfl (zG rfl rfl) ?_
   refine sq rfl rfl hn rfl (zG rfl rfl) ?_
   refine sq rfl rfl hn rfl (q_index (i := (i + 1)) rfl rfl rfl Tryz.underlying22 sz3 rfl (show ((x :: l).map intE)[i + 1]? = some (intE y) from mget (by simpa using hy))) ?_
   refine sq rfl rfl hn rfl (zR rfl rfl Tryz.underlying3 rfl seesF0) ?_
   refine sq rfl rfl hn rfl (q_min rfl rfl rfl) ?_
   refine sq rfl rfl hn rfl (zF rfl rfl) ?_
   refine zE (za (zA (zB ?_)))
   refine sq rfl rfl hn rfl (zG rfl rfl) ?_
   refine sq rfl rfl hn rfl (z6 rfl rfl rfl (r := ((i + 1 + 1 : Nat) : Int)) (i64w (by omega) (by omega))) ?_
   refine sq rfl rfl hn rfl (zF rfl rfl) ?_
   refine zE ?_
   exact zZ ⟨i + 1, by omega⟩ ⟨.inl rfl, .inl (congrArg (fun z => some (true, TV.d (.int .i64 z))) (minL_take hy)), zJ _⟩ trivial (by simp only; omega) (by repeat (first | exact kr _ | refine kc rfl ?_)) (by repeat (first | exact kr _ | refine kc rfl ?_))
  ·
   try simp only [decide_eq_true_eq, decide_eq_false_iff_not, Bool.and_eq_true, Bool.or_eq_true, Bool.and_eq_false_iff, Bool.or_eq_false_iff, Bool.not_eq_true', Bool.not_eq_false', beq_iff_eq, bne_iff_ne, ne_eq, beq_eq_false_iff_ne, bne_eq_false_iff_eq, Int.not_lt, Int.not_le] at hb1
   refine zw (zK (zK (zW (zA (zC (zB ?_))))))
   refine sq rfl rfl hn rfl (zG rfl rfl) ?_
   refine sq rfl rfl hn rfl (zF rfl rfl) ?_
   refine zE (zA (zO ?_))
   refine zp (zt (.inl rfl) hl rfl (.tmp rfl)) ?_
   have hie : i = l.length := by simp at hb1; omega
   subst hie; rw [List.take_length]
def countAt (o : List Int) (day n : Nat) (house : Int) : Nat := (List.range n).countP fun s => houseAt o day s == house
section
variable {r : Reg} {b i : Nat}
end
end Go.Proofs.YtaokpncjemkhcaaGreat
