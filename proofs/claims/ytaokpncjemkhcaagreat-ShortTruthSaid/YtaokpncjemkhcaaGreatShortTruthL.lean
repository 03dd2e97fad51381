/-
  A part of the proof that contangolaw.ShortTruth returns true: what the last text needs, and no more. No condition: no statement of the seat is proved here.
-/
import Derived.Test.YtaokpncjemkhcaaGreatShortTruthK
namespace Go.Proofs.YtaokpncjemkhcaaGreat
open Go.RowKit
set_option maxRecDepth 20000
set_option linter.all false
theorem ask_ev {r : Reg} {is : Bool} {N : Nat} {out : List Nat} {e : Int} (v : Valid r) (his : is = true) (hN : N ≤ 9) (h : AskP r is (N : Nat) out e) : EvOK r N out ∧ e = if allDays r = [] then 9 else 0 := by
  have h0 := zBI v
  rcases h with ⟨k, _, _⟩ | ⟨_, k, _⟩ | ⟨_, _, n, hn, h9, hev, he⟩
  · exact (k h0).elim
  · rw [his] at k; simp [dayB] at k; omega
  · obtain rfl : N = n := by omega
    refine ⟨hev, he.trans ?_⟩
    by_cases ho : out = []
    · rw [if_pos ((zC3 v hN hev).1 ho), ho]; rfl
    · rw [if_neg (fun e => ho ((zC3 v hN hev).2 e))]
      cases out with
      | nil => exact (ho rfl).elim
      | cons _ _ => rfl
@[reducible] def seeC (r : Reg) (N : Nat) (hs : List Int) : List TV := [.d (.int .i64 r.houses), .d (ints r.start), .d (entsD r.entries), .d (sightsD (r.sights ++ asSights N 0 hs))]
theorem see_zero {r : Reg} {N : Nat} : ((regD r : D) |> fun d => (TV.d d).cells) = seeC r N [] := by
  show [TV.d _, TV.d _, TV.d _, TV.d _] = [TV.d _, TV.d _, TV.d _, TV.d _]
  rw [show r.sights ++ asSights N 0 [] = r.sights from List.append_nil _]
theorem zDK {r : Reg} {N : Nat} {hs : List Int} {i : Nat} {h : Int} (hh : hs[i]? = some h) : (r.sights ++ asSights N 0 (hs.take i)).map sightE ++ [sightE ⟨(i : Int), h, (N : Int)⟩] = (r.sights ++ asSights N 0 (hs.take (i + 1))).map sightE := by
  have hi := (List.getElem?_eq_some_iff.1 hh).1
  rw [List.take_add_one, hh, Option.toList_some, zAC, ← List.append_assoc, List.map_append (l₁ := r.sights ++ asSights N 0 (hs.take i)), List.length_take, Nat.min_eq_left (by omega), Nat.zero_add]; rfl
theorem see_len {r : Reg} {N : Nat} {hs : List Int} {i : Nat} : (r.sights ++ asSights N 0 (hs.take i)).length ≤ r.sights.length + hs.length := by
  rw [List.length_append, zAV, List.length_take]; omega
def SegX (xs : List (List D)) (j : Nat) (ys : List (List Int)) : Prop := ∃ pre post : List (List D), xs = pre ++ ys.map (fun p => [ints p]) ++ post ∧ pre.length = j
theorem seg_get {xs : List (List D)} {j : Nat} {p : List Int} (h : SegX xs j [p]) : xs[j]? = some [ints p] := by
  obtain ⟨pre, post, rfl, rfl⟩ := h
  rw [List.append_assoc, List.getElem?_append_right (Nat.le_refl _), Nat.sub_self]; rfl
theorem zFu {xs : List (List D)} {j : Nat} {a b : List (List Int)} (h : SegX xs j (a ++ b)) : SegX xs j a ∧ SegX xs (j + a.length) b := by
  obtain ⟨pre, post, rfl, rfl⟩ := h
  refine ⟨⟨pre, b.map (fun p => [ints p]) ++ post, by simp [List.append_assoc], rfl⟩, ⟨pre ++ a.map (fun p => [ints p]), post, by simp [List.append_assoc], by simp⟩⟩
abbrev putN (l : Ldg) (N k : Nat) (hs : List Int) : List (List Int) := putL (heldB l.reg N) (candL l.reg N) k hs
/-- What the first houses of those that a sheet can be in yield. -/
def firsts (l : Ldg) (N k : Nat) (hs : List Int) (c : Nat) : List (List Int) := ((candL l.reg N hs.length).take c).flatMap fun h => putN l N k (hs ++ [h])
theorem put_step {l : Ldg} {N k : Nat} {hs : List Int} (h : heldB l.reg N hs = true) : putN l N (k + 1) hs = firsts l N k hs (candL l.reg N hs.length).length := by
  unfold firsts
  rw [List.take_length]
  show (if heldB l.reg N hs = true then _ else _) = _
  rw [if_pos h]
theorem put_zero {l : Ldg} {N : Nat} {hs : List Int} (h : heldB l.reg N hs = true) : putN l N 0 hs = [hs] := if_pos h
theorem put_not {l : Ldg} {N k : Nat} {hs : List Int} (h : heldB l.reg N hs = false) : putN l N k hs = [] := by
  cases k <;> exact if_neg (by rw [h]; simp)
theorem zDA {l : Ldg} {N k c : Nat} {hs : List Int} {h : Int} (hc : (candL l.reg N hs.length)[c]? = some h) : firsts l N k hs (c + 1) = firsts l N k hs c ++ putN l N k (hs ++ [h]) := by
  unfold firsts
  rw [List.take_add_one, hc, List.flatMap_append]; simp
theorem first_seg {l : Ldg} {N k c j : Nat} {hs : List Int} {xs : List (List D)} {h : Int} (hx : SegX xs j (firsts l N k hs (candL l.reg N hs.length).length)) (hc : (candL l.reg N hs.length)[c]? = some h) : SegX xs (j + (firsts l N k hs c).length) (putN l N k (hs ++ [h])) := by
  have e : firsts l N k hs (candL l.reg N hs.length).length = firsts l N k hs c ++ (putN l N k (hs ++ [h]) ++ ((candL l.reg N hs.length).drop (c + 1)).flatMap fun h => putN l N k (hs ++ [h])) := by
    rw [← List.append_assoc, ← zDA hc]
    unfold firsts
    rw [List.take_length, ← List.flatMap_append, List.take_append_drop]
  rw [e] at hx
  exact (zFu (zFu hx).2).1
@[reducible] def putCa (l : Ldg) (b2 b3 : Nat) : List TV := [.d (.ptr (ldgC l)), .val (.pointer (some ⟨b2, 0, none⟩)), .val (.pointer (some ⟨b3, 0, none⟩))]
@[reducible] def putRs {ι : Type} (l : Ldg) (lq : Nat) (R : ι → Res) (b2 b3 : Nat) (i : ι) : List (Nat × Res) := [(7000, R i), (1031, .box b2 199 [.val (.func (.yield lq) #[] #[])]), (1032, .box b3 199 [.fn (.func 139) [] (putCa l b2 b3)])]
theorem yn {hs : List Int} {h : Int} : ints (hs ++ [h]) = .slice 1 (hs.map intE ++ [intE h]) := by unfold ints; rw [List.map_append]; rfl
def PutX {ι : Type} (A : Nat → ι → Prop) (B : ι → Prop) (j n : Nat) : Type := {x : Bool × ι // (x.1 = true → A (j + n) x.2) ∧ (x.1 = false → B x.2)}
def PutsOK (l : Ldg) (N : Nat) {ι : Type} (lq : Nat) (R : ι → Res) (A : Nat → ι → Prop) (B : ι → Prop) (xs : List (List D)) (b2 b3 k : Nat) : Prop := ∀ (hs : List Int) (j : Nat) (i : ι), hs.length + k = l.reg.start.length → (∀ x ∈ hs, 0 ≤ x ∧ x ≤ l.reg.houses - 1) → SegX xs j (putN l N k hs) → A j i →
  EffAt Tryz.prog 139 (.d (ints hs) :: putCa l b2 b3) (putRs l lq R b2 b3 i) (X := PutX A B j (putN l N k hs).length) (fun x => .d (.bool x.1.1)) (fun x => putRs l lq R b2 b3 x.1.2)
theorem zFk {r : Reg} {N s : Nat} (h4 : r.houses ≤ 4) : (candL r N s).length ≤ 4 ∧ ∀ x ∈ candL r N s, 0 ≤ x ∧ x ≤ r.houses - 1 := by
  unfold candL refHolders
  constructor
  · rw [List.length_map]
    refine Nat.le_trans (List.length_filter_le _ _) ?_
    rw [List.length_range]; omega
  · intro x hx
    obtain ⟨y, hy, rfl⟩ := List.mem_map.1 hx
    have := List.mem_range.1 (List.mem_filter.1 hy).1
    show 0 ≤ ((y : Nat) : Int) ∧ ((y : Nat) : Int) ≤ _
    omega
theorem yT (l : List Int) (hl : l.length ≤ 1000) : EffAt Tryz.prog 77 [.d (ints l)] [] (X := Value) (fun v => .val v) (fun v => [(1021, .row v 3 1 (l.map intE))]) := by
 refine EffAt.of_awp Tryz.func77 rfl (by kernel_rfl) rfl fun Γ hn => ?_
 refine zC (zB ?_)
 refine sq rfl rfl hn rfl (zF rfl rfl) ?_
 refine zE (zA (zC (zC (zB ?_))))
 refine sq rfl rfl hn rfl (zG rfl rfl) ?_
 refine stepW (s_eqlNil rfl rfl rfl (nb hn rfl) Tryz.underlying22 rfl) fun ⟨nil4, hnil4⟩ => ?_
 refine zE (zA ?_)
 refine zQ rfl (fun hb0 => ?_) (fun hb0 => ?_)
 ·
  obtain rfl : l = [] := by have h0 := hnil4 hb0; simpa using h0
  refine zC (zB ?_)
  refine sq rfl rfl hn rfl (zF rfl rfl) ?_
  refine zE (zA (zP (zM ?_)))
  refine yp (g_nil (t := 2) (id := 1021) 3 1 rfl (nb hn rfl)) ?_
  exact ret_E (.inl rfl) (.slice none 0 0) (yG rfl (.tmp rfl)) ⟨rfl, trivial⟩
 ·
  refine zT (zA (zC (zB ?_)))
  refine stepW (s_buildRow 1021 rfl rfl rfl (nb hn rfl) Tryz.underlying22 sz3 zr3 rfl rfl rfl (show _ = [] from by kernel_rfl) (by kernel_rfl) rfl rfl rfl rfl rfl) fun v5 => ?_
  refine sq rfl rfl hn rfl (zG rfl rfl) ?_
  refine stepW (s_append (id := 1021) rfl rfl rfl (nb hn rfl) elt22 trivial rfl rfl rfl (by simp [chunk]; omega) (by simp [chunk]; omega) (fun b hb => trivial)) fun v7 => ?_
  refine sq rfl rfl hn rfl (zF rfl rfl) ?_
  refine zE (zA (zP ?_))
  exact ret_E (.inl rfl) v7 (yG rfl (.tmp rfl)) ⟨rfl, trivial⟩
theorem zAd (l : List Sight5) (hl : l.length ≤ 1000) : EffAt Tryz.prog 151 [.d (sightsD l)] [] (X := Value) (fun v => .val v) (fun v => [(1020, .row v 90 3 (l.map sightE))]) := by
 refine EffAt.of_awp Tryz.func151 rfl (by kernel_rfl) rfl fun Γ hn => ?_
 refine zC (zB ?_)
 refine sq rfl rfl hn rfl (zF rfl rfl) ?_
 refine zE (zA (zC (zC (zB ?_))))
 refine sq rfl rfl hn rfl (zG rfl rfl) ?_
 refine stepW (s_eqlNil rfl rfl rfl (nb hn rfl) Tryz.underlying42 rfl) fun ⟨nil4, hnil4⟩ => ?_
 refine zE (zA ?_)
 refine zQ rfl (fun hb0 => ?_) (fun hb0 => ?_)
 ·
  obtain rfl : l = [] := by have h0 := hnil4 hb0; simpa using h0
  refine zC (zB ?_)
  refine sq rfl rfl hn rfl (zF rfl rfl) ?_
  refine zE (zA (zP (zM ?_)))
  refine yp (g_nil (t := 2) (id := 1020) 90 3 rfl (nb hn rfl)) ?_
  exact ret_E (.inl rfl) (.slice none 0 0) (yG rfl (.tmp rfl)) ⟨rfl, trivial⟩
 ·
  refine zT (zA (zC (zB ?_)))
  refine stepW (s_buildRow 1020 rfl rfl rfl (nb hn rfl) Tryz.underlying42 sz90 zr90 rfl rfl rfl (show _ = [] from by kernel_rfl) (by kernel_rfl) rfl rfl rfl rfl rfl) fun v5 => ?_
  refine sq rfl rfl hn rfl (zG rfl rfl) ?_
  refine stepW (s_append (id := 1020) rfl rfl rfl (nb hn rfl) elt42 trivial rfl rfl rfl (by simp [chunk]; omega) (by simp [chunk]; omega) (fun b hb => trivial)) fun v7 => ?_
  refine sq rfl rfl hn rfl (zF rfl rfl) ?_
  refine zE (zA (zP ?_))
  exact ret_E (.inl rfl) v7 (yG rfl (.tmp rfl)) ⟨rfl, trivial⟩
theorem holds_ok (l : Ldg) (N : Nat) (hs : List Int) (hd5 : l.day = (N : Int)) (v : Valid l.reg) (vx : Valid (seeReg l.reg N hs)) (hN9 : N ≤ 9) (hl5 : hs.length ≤ l.reg.start.length) : PureAt Tryz.prog 140 [ldgD l, ints hs] (.bool (heldB l.reg N hs)) := by
 have hs4 := v.s4; have hg4 := v.g4
 refine PureAt.of_awp Tryz.func140 rfl (by kernel_rfl) (Nat.le_of_ble_eq_true rfl) fun Γ hn hl => ?_
 refine zC (zB ?_)
 refine stepW (zr 2 rfl rfl rfl (nb hn rfl) rfl rfl) fun b2 => ?_
 refine sq rfl rfl hn rfl (zF rfl rfl) ?_
 refine zE (zA (zC ?_))
 refine zw (zp (t := 2) 2 rfl (nb hn rfl) rfl rfl trivial) ?_
 refine zB ?_
 refine sq rfl rfl hn rfl (zO rfl rfl Tryz.underlying50 rfl sz44 rfl) ?_
 refine sq rfl rfl hn rfl (zf rfl rfl Tryz.underlying44 rfl sz44 rfl rfl seesF0) ?_
 refine stepW (zg 5 rfl rfl rfl (nb hn rfl) zr44 rfl rfl) fun b5 => ?_
 refine stepW (zh rfl rfl rfl rfl rfl rfl (id := 5) rfl sz44 rfl (Nat.le_of_ble_eq_true rfl) rfl trivial) fun _ => ?_
 refine zE (zA (zC (zC (zB ?_))))
 refine sq rfl rfl hn rfl (zG rfl rfl) ?_
 refine sq rfl rfl hn rfl (zu rfl rfl Tryz.underlying22) ?_
 refine sq rfl rfl hn rfl (zG rfl rfl) ?_
 refine zE (zA (zR ?_))
 refine awp_loop_on (ι := {x : Nat // x ≤ hs.length}) (fun x => (14, true, .d (.int .i64 (x.1 : Nat))) :: anys [15, 16, 17, 18, 6, 7, 19, 20, 21, 22, 23, 24, 25, 26, 27, 28, 29, 30]) (fun x => (5, .box b5 44 (seeC l.reg N (hs.take x.1))) :: gones [1020]) (fun x => hs.length - x.1) ⟨0, Nat.zero_le _⟩ ⟨.inl rfl, zK _⟩ ⟨.inl (congrArg (fun z => some (Res.box b5 44 z)) see_zero), zW _⟩ ?_
 rintro ⟨i, hi⟩
 dsimp only
 refine zC (zB ?_)
 refine sq rfl rfl hn rfl (yB rfl rfl rfl) ?_
 refine zE (zA (zC ?_))
 refine zQ rfl (fun hb0 => ?_) (fun hb0 => ?_)
 ·
  have hil : i < hs.length := by simpa using hb0
  obtain ⟨x, hh⟩ := z7 hil
  have hsl := see_len (r := l.reg) (N := N) (hs := hs) (i := i)
  refine zT (zA (zC (zR (zC (zB ?_)))))
  refine sq rfl rfl hn rfl (zG rfl rfl) ?_
  refine sq rfl rfl hn rfl (q_index (i := i) rfl rfl rfl Tryz.underlying22 sz3 rfl (mget hh)) ?_
  refine sq rfl rfl hn rfl (zV rfl rfl Tryz.underlying3 rfl seesF0) ?_
  refine sq rfl rfl hn rfl (zF rfl rfl) ?_
  refine sq rfl rfl hn rfl (zF rfl rfl) ?_
  refine zE (zA ?_)
  refine z6 (W := fun b => True) fmo ?_
  refine d1q (i := 0) rfl (by kernel_rfl) (fun _ _ _ _ h => h) rfl rfl hn rfl (zH rfl rfl Tryz.underlying44 rfl sz42) ?_
  refine d1q (i := 3) rfl (by kernel_rfl) (fun _ _ _ _ h => h) rfl rfl hn rfl (zG rfl rfl) ?_
  refine d1q (i := 4) rfl (by kernel_rfl) (fun _ _ _ _ h => h) rfl rfl hn rfl (zG rfl rfl) ?_
  refine d1q (i := 5) rfl (by kernel_rfl) (fun _ _ _ _ h => h) rfl rfl hn rfl (zO rfl rfl Tryz.underlying50 rfl sz3 rfl) ?_
  refine d1q (i := 6) rfl (by kernel_rfl) (fun _ _ _ _ h => h) rfl rfl hn rfl (zV rfl rfl Tryz.underlying3 rfl seesFA) ?_
  refine d1q (i := 7) rfl (by kernel_rfl) (fun _ _ _ _ h => h) rfl rfl hn rfl (zt rfl bt90 rfl rfl rfl rfl rfl) ?_
  refine zL ?_
  refine yW 1 [8] (by kernel_rfl) ⟨?_, ?_, trivial⟩
  ·
   refine br rfl (zz _ [] (zJ rfl) rfl (nb hn rfl) (fun _ => trivial) (fun _ => zN rfl rfl (id := 5) rfl Tryz.underlying42 rfl rfl sees0)) fun _ => ?_
   refine d2_of_d1 (zL ?_)
   refine yW 2 [8] (by kernel_rfl) ⟨?_, ?_, trivial⟩
   ·
    refine br rfl (s_callE (zAd (l.reg.sights ++ asSights N 0 (hs.take i)) (by omega)) rfl rfl rfl (nb hn rfl) (.d rfl) rfl (.refl _) trivial (fun _ => rfl) (fun _ _ => trivial)) fun vc => ?_
    refine d2_of_d1 (zL ?_)
    refine ze (i := 8) (by kernel_rfl) rfl (zb rfl rfl rfl (nb hn rfl) Tryz.underlying42 sz90 zr90 rfl rfl rfl (show _ = [.d (.int .i64 0), .d (.int .i64 0), .d (.int .i64 0)] from by kernel_rfl) (by kernel_rfl) rfl rfl rfl rfl rfl) fun _ => ?_
    refine d2_of_d1 (zL ?_)
    refine ze (i := 9) (by kernel_rfl) rfl (s_append (id := 1020) rfl rfl rfl (nb hn rfl) elt42 trivial rfl rfl rfl (by simp only [chunk, List.length_map, List.length_cons, List.length_nil]; omega) (by simp only [chunk, List.length_map, List.length_cons, List.length_nil]; omega) (fun b hb => trivial)) fun v28 => ?_
    refine d2_of_d1 ?_
    refine d1q (i := 10) rfl (by kernel_rfl) (fun _ _ _ _ h => h) rfl rfl hn rfl (zH rfl rfl Tryz.underlying44 rfl sz42) ?_
    refine zL ?_
    refine zAq (g_row (t := 28) (id := 1020) rfl rfl) ?_
    refine ze (i := 11) (by kernel_rfl) rfl (s_store1 rfl rfl rfl rfl rfl rfl (id := 5) rfl sz42 (Nat.le_of_ble_eq_true rfl) rfl trivial) fun _ => ?_
    refine d2_of_d1 (zL ?_)
    refine zl (by kernel_rfl) ?_
    refine zX (zA (zB ?_))
    refine sq rfl rfl hn rfl (zq rfl rfl rfl (r := ((i + 1 : Nat) : Int)) (i64w (by omega) (by omega))) ?_
    refine sq rfl rfl hn rfl (zG rfl rfl) ?_
    refine zE ?_
    exact zU ⟨i + 1, by omega⟩ ⟨.inl rfl, zK _⟩ ⟨.inl (congrArg (fun z => some (Res.box b5 44 [.d (.int .i64 l.reg.houses), .d (ints l.reg.start), .d (entsD l.reg.entries), .d (.slice 3 z)])) (by rw [hd5]; exact zDK hh)), zW _⟩ (by simp only; omega) (by repeat (first | exact kr _ | refine kc rfl ?_)) (by repeat (first | exact kr _ | refine kc rfl ?_))
   ·
    refine br rfl (zb rfl rfl rfl (nb hn rfl) Tryz.underlying42 sz90 zr90 rfl rfl rfl (show _ = [.d (.int .i64 0), .d (.int .i64 0), .d (.int .i64 0)] from by kernel_rfl) (by kernel_rfl) rfl rfl rfl rfl rfl) fun _ => ?_
    refine d2_of_d1 (zL ?_)
    refine ze (i := 2) (by kernel_rfl) rfl (s_callE (zAd (l.reg.sights ++ asSights N 0 (hs.take i)) (by omega)) rfl rfl rfl (nb hn rfl) (.d rfl) rfl (.refl _) trivial (fun _ => rfl) (fun _ _ => trivial)) fun vc => ?_
    refine d2_of_d1 (zL ?_)
    refine ze (i := 9) (by kernel_rfl) rfl (s_append (id := 1020) rfl rfl rfl (nb hn rfl) elt42 trivial rfl rfl rfl (by simp only [chunk, List.length_map, List.length_cons, List.length_nil]; omega) (by simp only [chunk, List.length_map, List.length_cons, List.length_nil]; omega) (fun b hb => trivial)) fun v28 => ?_
    refine d2_of_d1 ?_
    refine d1q (i := 10) rfl (by kernel_rfl) (fun _ _ _ _ h => h) rfl rfl hn rfl (zH rfl rfl Tryz.underlying44 rfl sz42) ?_
    refine zL ?_
    refine zAq (g_row (t := 28) (id := 1020) rfl rfl) ?_
    refine ze (i := 11) (by kernel_rfl) rfl (s_store1 rfl rfl rfl rfl rfl rfl (id := 5) rfl sz42 (Nat.le_of_ble_eq_true rfl) rfl trivial) fun _ => ?_
    refine d2_of_d1 (zL ?_)
    refine zl (by kernel_rfl) ?_
    refine zX (zA (zB ?_))
    refine sq rfl rfl hn rfl (zq rfl rfl rfl (r := ((i + 1 : Nat) : Int)) (i64w (by omega) (by omega))) ?_
    refine sq rfl rfl hn rfl (zG rfl rfl) ?_
    refine zE ?_
    exact zU ⟨i + 1, by omega⟩ ⟨.inl rfl, zK _⟩ ⟨.inl (congrArg (fun z => some (Res.box b5 44 [.d (.int .i64 l.reg.houses), .d (ints l.reg.start), .d (entsD l.reg.entries), .d (.slice 3 z)])) (by rw [hd5]; exact zDK hh)), zW _⟩ (by simp only; omega) (by repeat (first | exact kr _ | refine kc rfl ?_)) (by repeat (first | exact kr _ | refine kc rfl ?_))
  ·
   refine br rfl (zb rfl rfl rfl (nb hn rfl) Tryz.underlying42 sz90 zr90 rfl rfl rfl (show _ = [.d (.int .i64 0), .d (.int .i64 0), .d (.int .i64 0)] from by kernel_rfl) (by kernel_rfl) rfl rfl rfl rfl rfl) fun _ => ?_
   refine d2_of_d1 (zL ?_)
   refine ze (i := 1) (by kernel_rfl) rfl (zz _ [] (zJ rfl) rfl (nb hn rfl) (fun _ => trivial) (fun _ => zN rfl rfl (id := 5) rfl Tryz.underlying42 rfl rfl sees0)) fun _ => ?_
   refine d2_of_d1 (zL ?_)
   refine ze (i := 2) (by kernel_rfl) rfl (s_callE (zAd (l.reg.sights ++ asSights N 0 (hs.take i)) (by omega)) rfl rfl rfl (nb hn rfl) (.d rfl) rfl (.refl _) trivial (fun _ => rfl) (fun _ _ => trivial)) fun vc => ?_
   refine d2_of_d1 (zL ?_)
   refine ze (i := 9) (by kernel_rfl) rfl (s_append (id := 1020) rfl rfl rfl (nb hn rfl) elt42 trivial rfl rfl rfl (by simp only [chunk, List.length_map, List.length_cons, List.length_nil]; omega) (by simp only [chunk, List.length_map, List.length_cons, List.length_nil]; omega) (fun b hb => trivial)) fun v28 => ?_
   refine d2_of_d1 ?_
   refine d1q (i := 10) rfl (by kernel_rfl) (fun _ _ _ _ h => h) rfl rfl hn rfl (zH rfl rfl Tryz.underlying44 rfl sz42) ?_
   refine zL ?_
   refine zAq (g_row (t := 28) (id := 1020) rfl rfl) ?_
   refine ze (i := 11) (by kernel_rfl) rfl (s_store1 rfl rfl rfl rfl rfl rfl (id := 5) rfl sz42 (Nat.le_of_ble_eq_true rfl) rfl trivial) fun _ => ?_
   refine d2_of_d1 (zL ?_)
   refine zl (by kernel_rfl) ?_
   refine zX (zA (zB ?_))
   refine sq rfl rfl hn rfl (zq rfl rfl rfl (r := ((i + 1 : Nat) : Int)) (i64w (by omega) (by omega))) ?_
   refine sq rfl rfl hn rfl (zG rfl rfl) ?_
   refine zE ?_
   exact zU ⟨i + 1, by omega⟩ ⟨.inl rfl, zK _⟩ ⟨.inl (congrArg (fun z => some (Res.box b5 44 [.d (.int .i64 l.reg.houses), .d (ints l.reg.start), .d (entsD l.reg.entries), .d (.slice 3 z)])) (by rw [hd5]; exact zDK hh)), zW _⟩ (by simp only; omega) (by repeat (first | exact kr _ | refine kc rfl ?_)) (by repeat (first | exact kr _ | refine kc rfl ?_))
 ·
  obtain rfl : i = hs.length := by simp at hb0; omega
  rw [List.take_length]
  refine zk (zI (zI (zS (zA (zC (zB ?_))))))
  refine sq rfl rfl hn rfl (za rfl rfl (id := 5) rfl Tryz.underlying44 rfl sz44 rfl rfl sees0) ?_
  refine stepW (s_callE (explain_ok (seeReg l.reg N hs)) rfl rfl rfl (nb hn rfl) (.d rfl) rfl (.refl _) trivial (fun _ => rfl) (fun _ _ => trivial)) fun xE => ?_
  refine sq rfl rfl hn rfl (zG rfl rfl) ?_
  refine sq rfl rfl hn rfl (zY rfl rfl rfl) ?_
  refine sq rfl rfl hn rfl (zY rfl rfl rfl) ?_
  refine sq rfl rfl hn rfl (zF rfl rfl) ?_
  refine sq rfl rfl hn rfl (zF rfl rfl) ?_
  refine zE (zA (zC (zB ?_)))
  refine sq rfl rfl hn rfl (zG rfl rfl) ?_
  refine sq rfl rfl hn rfl (yM rfl rfl rfl) ?_
  refine sq rfl rfl hn rfl (zF rfl rfl) ?_
  refine zE (zA (zP ?_))
  refine zj (zm (.inl rfl) hl rfl (.tmp rfl)) ?_
  rw [show (xE.1.2 == 0) = heldB l.reg N hs from by rw [Bool.eq_iff_iff, ← holds_held v vx hN9 hl5, beq_iff_eq]; exact (expl_err vx xE).1]
theorem zFC (l : Ldg) (N : Nat) (hd5 : l.day = (N : Int)) (v : Valid l.reg) (hg0 : l.reg.sights = []) (hN9 : N ≤ 9) {ι : Type} (lq : Nat) (R : ι → Res) (A : Nat → ι → Prop) (B : ι → Prop) (xs : List (List D)) (hy : ∀ j x i, xs[j]? = some x → A j i → YieldE Tryz.prog lq x R i (A (j + 1)) B) (b2 b3 k : Nat) (ih : ∀ k1, k = k1 + 1 → PutsOK l N lq R A B xs b2 b3 k1) (hs : List Int) (j : Nat) (i0 : ι) (hk5 : hs.length + k = l.reg.start.length) (hb5 : ∀ x ∈ hs, 0 ≤ x ∧ x ≤ l.reg.houses - 1) (hx5 : SegX xs j (putN l N k hs)) (hA0 : A j i0) : EffAt Tryz.prog 139 (.d (ints hs) :: putCa l b2 b3) (putRs l lq R b2 b3 i0) (X := PutX A B j (putN l N k hs).length) (fun x => .d (.bool x.1.1)) (fun x => putRs l lq R b2 b3 x.1.2) := by
 have hs4 := v.s4; have hh4 := v.h4
 have hl5 : hs.length ≤ l.reg.start.length := by omega
 have vx := see_valid v hg0 hl5 hb5 hN9
 refine EffAt.of_awp Tryz.func139 rfl (by kernel_rfl) rfl fun Γ hn => zCp.1 ?_
 refine yA (zo ?_)
 refine sqI rfl rfl hn rfl (zF rfl rfl) rfl ?_
 refine z8 (zn (yA (yA (zo ?_))))
 refine sqI rfl rfl hn rfl (zf rfl rfl Tryz.underlying50 rfl sz50 rfl rfl seesF0) rfl ?_
 refine sqI rfl rfl hn rfl (zG rfl rfl) rfl ?_
 refine stepWI ((s_call [] (fun _ => holds_ok l N hs hd5 v vx hN9 hl5) rfl (zJ rfl) rfl (nb hn rfl) (fun _ => trivial) rfl rfl (.refl _)).i rfl) fun _ => ?_
 refine sqI rfl rfl hn rfl (yE rfl rfl) rfl ?_
 refine z8 (zn ?_)
 refine yu rfl (fun hb0 => ?_) (fun hb0 => ?_)
 ·
  have hhd : heldB l.reg N hs = false := notT hb0
  have hpz := put_not (l := l) (N := N) (k := k) hhd
  refine yA (zo ?_)
  refine sqI rfl rfl hn rfl (zF rfl rfl) rfl ?_
  refine z8 (zn (zBb (zM ?_)))
  exact ret_E (.inl rfl) ⟨(true, i0), fun _ => by rw [hpz]; exact hA0, fun h => by cases h⟩ (yG rfl (.tmp rfl)) ⟨rfl, rfl, rfl, trivial⟩
 ·
  have hhd : heldB l.reg N hs = true := notF hb0
  refine yt (zn (yA (zo ?_)))
  refine sqI rfl rfl hn rfl (zG rfl rfl) rfl ?_
  refine sqI rfl rfl hn rfl (zu rfl rfl Tryz.underlying22) rfl ?_
  refine sqI rfl rfl hn rfl (zF rfl rfl) rfl ?_
  refine z8 (zn (yA (yA (zo ?_))))
  refine sqI rfl rfl hn rfl (zG rfl rfl) rfl ?_
  refine sqI rfl rfl hn rfl (zO rfl rfl Tryz.underlying50 rfl sz44 rfl) rfl ?_
  refine sqI rfl rfl hn rfl (zO rfl rfl Tryz.underlying44 rfl sz22 rfl) rfl ?_
  refine sqI rfl rfl hn rfl (zV rfl rfl Tryz.underlying22 rfl seesF0) rfl ?_
  refine sqI rfl rfl hn rfl (zu rfl rfl Tryz.underlying22) rfl ?_
  refine sqI rfl rfl hn rfl (yM rfl rfl rfl) rfl ?_
  refine z8 (zn ?_)
  refine yu rfl (fun hb1 => ?_) (fun hb1 => ?_)
  ·
   obtain rfl : k = 0 := by simp only [List.length_map, beq_iff_eq] at hb1; omega
   have hpz := put_zero (l := l) (N := N) hhd
   rw [hpz] at hx5
   refine yA (zo ?_)
   refine sqI rfl rfl hn rfl (zN rfl rfl (id := 1031) rfl Tryz.underlying199 rfl rfl sees0) rfl ?_
   refine sqI rfl rfl hn rfl (zG rfl rfl) rfl ?_
   refine stepWI (s_yield [] (i0) (fun _ => hy j [ints hs] i0 (seg_get hx5) hA0) rfl (zJ rfl) rfl (nb hn rfl) (fun _ => trivial) rfl rfl (.refl _) rfl (fun _ _ => trivial)) fun ⟨⟨by1, i1⟩, hp1, hp0⟩ => ?_
   refine sqI rfl rfl hn rfl (zF rfl rfl) rfl ?_
   refine z8 (zn (zBb (zM ?_)))
   exact ret_E (.inl rfl) ⟨(by1, i1), fun h => by rw [hpz]; exact (hp1 rfl).1 h, fun h => (hp1 rfl).2 h⟩ (yG rfl (.tmp rfl)) ⟨rfl, rfl, rfl, trivial⟩
  ·
   obtain ⟨k1, rfl⟩ : ∃ k1, k = k1 + 1 := ⟨k - 1, by simp only [List.length_map, beq_eq_false_iff_ne, ne_eq] at hb1; omega⟩
   have hpz := put_step (l := l) (N := N) (k := k1) hhd
   rw [hpz] at hx5
   rw [show (hs.map intE).length = hs.length from List.length_map ..]
   have hcb := zFk (N := N) (s := hs.length) hh4
   refine yt (zn (yA (zo ?_)))
   refine sqI rfl rfl hn rfl (zO rfl rfl Tryz.underlying50 rfl sz44 rfl) rfl ?_
   refine sqI rfl rfl hn rfl (zf rfl rfl Tryz.underlying44 rfl sz44 rfl rfl seesF0) rfl ?_
   refine sqI rfl rfl hn rfl (zG rfl rfl) rfl ?_
   refine sqI rfl rfl hn rfl (zO rfl rfl Tryz.underlying50 rfl sz3 rfl) rfl ?_
   refine sqI rfl rfl hn rfl (zV rfl rfl Tryz.underlying3 rfl seesF0) rfl ?_
   refine stepWI ((s_callE (Holders_eff l.reg ((hs.length : Nat) : Int) l.day) rfl rfl rfl (nb hn rfl) (.d rfl) rfl (.refl _) trivial (fun _ => rfl) (fun _ _ => trivial)).i rfl) fun xH => ?_
   obtain ⟨⟨oH, eH⟩, hH⟩ := xH
   rw [hd5] at hH
   have hev := (ask_ev v (by simp [sheetB]; omega) hN9 hH).1
   have hce : holdR l.reg ((hs.length : Nat) : Int) oH = candL l.reg N hs.length := holders_eq v hN9 (by omega) hev
   dsimp only
   rw [hce]
   refine sqI rfl rfl hn rfl (zG rfl rfl) rfl ?_
   refine sqI rfl rfl hn rfl (zY rfl rfl rfl) rfl ?_
   refine sqI rfl rfl hn rfl (zY rfl rfl rfl) rfl ?_
   refine sqI rfl rfl hn rfl (zF rfl rfl) rfl ?_
   refine sqI rfl rfl hn rfl (zF rfl rfl) rfl ?_
   refine z8 (zn (yA (yA (zo ?_))))
   refine sqI rfl rfl hn rfl (zG rfl rfl) rfl ?_
   refine sqI rfl rfl hn rfl (zu rfl rfl Tryz.underlying22) rfl ?_
   refine sqI rfl rfl hn rfl (zG rfl rfl) rfl ?_
   refine z8 (zn (yz ?_))
   refine zCX (ι := {x : Nat × ι // x.1 ≤ (candL l.reg N hs.length).length ∧ A (j + (firsts l N k1 hs x.1).length) x.2}) (fun x => (37, true, .d (.int .i64 (x.1.1 : Nat))) :: anys [38, 39, 40, 10, 41, 42, 43, 44, 45, 46, 47, 48, 49]) (fun x => (7000, R x.1.2) :: (1031, .box b2 199 [.val (.func (.yield lq) #[] #[])]) :: (1032, .box b3 199 [.fn (.func 139) [] (putCa l b2 b3)]) :: gones [1021]) (fun x => (candL l.reg N hs.length).length - x.1.1) ⟨(0, i0), Nat.zero_le _, hA0⟩ ⟨.inl rfl, zK _⟩ ⟨.inl rfl, .inl rfl, .inl rfl, zW _⟩ ?_
   rintro ⟨⟨c, i1⟩, hcl, hAc⟩
   dsimp only
   dsimp only at hcl hAc
   refine yA (zo ?_)
   refine sqI rfl rfl hn rfl (yB rfl rfl rfl) rfl ?_
   refine z8 (zn (yA ?_))
   refine yu rfl (fun hb2 => ?_) (fun hb2 => ?_)
   ·
    have hcl2 : c < (candL l.reg N hs.length).length := by simpa using hb2
    obtain ⟨h, hch⟩ := z7 hcl2
    have hsg := first_seg hx5 hch
    have hhb := hcb.2 h (List.mem_of_getElem? hch)
    refine yt (zn (yA (yz (yA (zo ?_)))))
    refine sqI rfl rfl hn rfl (q_index (i := c) rfl rfl rfl Tryz.underlying22 sz3 rfl (mget hch)) rfl ?_
    refine sqI rfl rfl hn rfl (zV rfl rfl Tryz.underlying3 rfl seesF0) rfl ?_
    refine sqI rfl rfl hn rfl (zF rfl rfl) rfl ?_
    refine z8 (zn (yA ?_))
    refine zCe (e := .normal) (ι := PutX A B (j + (firsts l N k1 hs c).length) (putN l N k1 (hs ++ [h])).length) (fun x => (48, true, .d (.bool (!x.1.1))) :: anys [41, 42, 43, 44, 45, 46, 47]) (fun x => (7000, R x.1.2) :: (1031, .box b2 199 [.val (.func (.yield lq) #[] #[])]) :: (1032, .box b3 199 [.fn (.func 139) [] (putCa l b2 b3)]) :: gones [1021]) (fun hJ3 => ?_) ?_
    ·
     refine zFB (W := fun b => True) fmo ?_
     refine d1qI (i := 1) rfl (by kernel_rfl) rfl (fun _ _ _ _ h => h) rfl rfl hn rfl (zG rfl rfl) ?_
     refine d1qI (i := 3) rfl (by kernel_rfl) rfl (fun _ _ _ _ h => h) rfl rfl hn rfl (zG rfl rfl) ?_
     refine zx ?_
     refine zAa 0 [2, 4] (by kernel_rfl) ⟨?_, ?_, ?_, trivial⟩
     ·
      refine brI rfl ((zz _ [] (zJ rfl) rfl (nb hn rfl) (fun _ => trivial) (fun _ => zN rfl rfl (id := 1032) rfl Tryz.underlying199 rfl rfl sees0)).i rfl) fun _ => ?_
      refine zy (zx ?_)
      refine zAa 2 [4] (by kernel_rfl) ⟨?_, ?_, trivial⟩
      ·
       refine brI rfl ((s_callE (yT hs (by omega)) rfl rfl rfl (nb hn rfl) (.d rfl) rfl (.refl _) trivial (fun _ => rfl) (fun _ _ => trivial)).i rfl) fun vc => ?_
       refine zy (zx ?_)
       refine yO (i := 4) (by kernel_rfl) rfl ((zb rfl rfl rfl (nb hn rfl) Tryz.underlying22 sz3 zr3 rfl rfl rfl (show _ = [.d (.int .i64 0)] from by kernel_rfl) (by kernel_rfl) rfl rfl rfl rfl rfl).i rfl) fun _ => ?_
       refine zy (zx ?_)
       refine yO (i := 5) (by kernel_rfl) rfl ((s_append (id := 1021) rfl rfl rfl (nb hn rfl) elt22 trivial rfl rfl rfl (by simp [chunk]; omega) (by simp [chunk]; omega) (fun b hb => trivial)).i rfl) fun v46 => ?_
       refine zy (zx ?_)
       have hcall := ih k1 rfl (hs ++ [h]) (j + (firsts l N k1 hs c).length) i1 (by rw [List.length_append, List.length_singleton]; omega) (fun x hx => by rcases List.mem_append.1 hx with hx | hx; exact hb5 x hx; (rw [List.mem_singleton] at hx; subst hx; exact hhb)) hsg hAc
       rw [yn] at hcall
       refine zAr (g_row (t := 46) (id := 1021) rfl rfl) ?_
       refine yO (i := 6) (by kernel_rfl) rfl ((s_callE (hcall) rfl rfl rfl (nb hn rfl) (.t rfl) rfl (.refl _) ⟨rfl, rfl, rfl, trivial⟩ (fun _ => rfl) (fun _ _ => trivial)).i rfl) fun ⟨⟨by2, i2⟩, hq1, hq0⟩ => ?_
       refine zy ?_
       refine d1qI (i := 7) rfl (by kernel_rfl) rfl (fun _ _ _ _ h => h) rfl rfl hn rfl (yE rfl rfl) ?_
       refine zx ?_
       refine kB (by kernel_rfl) ?_
       exact aend_join_on hJ3 ⟨(by2, i2), hq1, hq0⟩ ⟨.inl rfl, zK _⟩ ⟨.inl rfl, .inl rfl, .inl rfl, zW _⟩ (by repeat (first | exact kr _ | refine kc rfl ?_)) (by repeat (first | exact kr _ | refine kc rfl ?_))
      ·
       refine brI rfl ((zb rfl rfl rfl (nb hn rfl) Tryz.underlying22 sz3 zr3 rfl rfl rfl (show _ = [.d (.int .i64 0)] from by kernel_rfl) (by kernel_rfl) rfl rfl rfl rfl rfl).i rfl) fun _ => ?_
       refine zy (zx ?_)
       refine yO (i := 2) (by kernel_rfl) rfl ((s_callE (yT hs (by omega)) rfl rfl rfl (nb hn rfl) (.d rfl) rfl (.refl _) trivial (fun _ => rfl) (fun _ _ => trivial)).i rfl) fun vc => ?_
       refine zy (zx ?_)
       refine yO (i := 5) (by kernel_rfl) rfl ((s_append (id := 1021) rfl rfl rfl (nb hn rfl) elt22 trivial rfl rfl rfl (by simp [chunk]; omega) (by simp [chunk]; omega) (fun b hb => trivial)).i rfl) fun v46 => ?_
       refine zy (zx ?_)
       have hcall := ih k1 rfl (hs ++ [h]) (j + (firsts l N k1 hs c).length) i1 (by rw [List.length_append, List.length_singleton]; omega) (fun x hx => by rcases List.mem_append.1 hx with hx | hx; exact hb5 x hx; (rw [List.mem_singleton] at hx; subst hx; exact hhb)) hsg hAc
       rw [yn] at hcall
       refine zAr (g_row (t := 46) (id := 1021) rfl rfl) ?_
       refine yO (i := 6) (by kernel_rfl) rfl ((s_callE (hcall) rfl rfl rfl (nb hn rfl) (.t rfl) rfl (.refl _) ⟨rfl, rfl, rfl, trivial⟩ (fun _ => rfl) (fun _ _ => trivial)).i rfl) fun ⟨⟨by2, i2⟩, hq1, hq0⟩ => ?_
       refine zy ?_
       refine d1qI (i := 7) rfl (by kernel_rfl) rfl (fun _ _ _ _ h => h) rfl rfl hn rfl (yE rfl rfl) ?_
       refine zx ?_
       refine kB (by kernel_rfl) ?_
       exact aend_join_on hJ3 ⟨(by2, i2), hq1, hq0⟩ ⟨.inl rfl, zK _⟩ ⟨.inl rfl, .inl rfl, .inl rfl, zW _⟩ (by repeat (first | exact kr _ | refine kc rfl ?_)) (by repeat (first | exact kr _ | refine kc rfl ?_))
     ·
      refine brI rfl ((s_callE (yT hs (by omega)) rfl rfl rfl (nb hn rfl) (.d rfl) rfl (.refl _) trivial (fun _ => rfl) (fun _ _ => trivial)).i rfl) fun vc => ?_
      refine zy (zx ?_)
      refine zAa 0 [4] (by kernel_rfl) ⟨?_, ?_, trivial⟩
      ·
       refine brI rfl ((zz _ [] (zJ rfl) rfl (nb hn rfl) (fun _ => trivial) (fun _ => zN rfl rfl (id := 1032) rfl Tryz.underlying199 rfl rfl sees0)).i rfl) fun _ => ?_
       refine zy (zx ?_)
       refine yO (i := 4) (by kernel_rfl) rfl ((zb rfl rfl rfl (nb hn rfl) Tryz.underlying22 sz3 zr3 rfl rfl rfl (show _ = [.d (.int .i64 0)] from by kernel_rfl) (by kernel_rfl) rfl rfl rfl rfl rfl).i rfl) fun _ => ?_
       refine zy (zx ?_)
       refine yO (i := 5) (by kernel_rfl) rfl ((s_append (id := 1021) rfl rfl rfl (nb hn rfl) elt22 trivial rfl rfl rfl (by simp [chunk]; omega) (by simp [chunk]; omega) (fun b hb => trivial)).i rfl) fun v46 => ?_
       refine zy (zx ?_)
       have hcall := ih k1 rfl (hs ++ [h]) (j + (firsts l N k1 hs c).length) i1 (by rw [List.length_append, List.length_singleton]; omega) (fun x hx => by rcases List.mem_append.1 hx with hx | hx; exact hb5 x hx; (rw [List.mem_singleton] at hx; subst hx; exact hhb)) hsg hAc
       rw [yn] at hcall
       refine zAr (g_row (t := 46) (id := 1021) rfl rfl) ?_
       refine yO (i := 6) (by kernel_rfl) rfl ((s_callE (hcall) rfl rfl rfl (nb hn rfl) (.t rfl) rfl (.refl _) ⟨rfl, rfl, rfl, trivial⟩ (fun _ => rfl) (fun _ _ => trivial)).i rfl) fun ⟨⟨by2, i2⟩, hq1, hq0⟩ => ?_
       refine zy ?_
       refine d1qI (i := 7) rfl (by kernel_rfl) rfl (fun _ _ _ _ h => h) rfl rfl hn rfl (yE rfl rfl) ?_
       refine zx ?_
       refine kB (by kernel_rfl) ?_
       exact aend_join_on hJ3 ⟨(by2, i2), hq1, hq0⟩ ⟨.inl rfl, zK _⟩ ⟨.inl rfl, .inl rfl, .inl rfl, zW _⟩ (by repeat (first | exact kr _ | refine kc rfl ?_)) (by repeat (first | exact kr _ | refine kc rfl ?_))
      ·
       refine brI rfl ((zb rfl rfl rfl (nb hn rfl) Tryz.underlying22 sz3 zr3 rfl rfl rfl (show _ = [.d (.int .i64 0)] from by kernel_rfl) (by kernel_rfl) rfl rfl rfl rfl rfl).i rfl) fun _ => ?_
       refine zy (zx ?_)
       refine zAa 0 [5] (by kernel_rfl) ⟨?_, ?_, trivial⟩
       ·
        refine brI rfl ((zz _ [] (zJ rfl) rfl (nb hn rfl) (fun _ => trivial) (fun _ => zN rfl rfl (id := 1032) rfl Tryz.underlying199 rfl rfl sees0)).i rfl) fun _ => ?_
        refine zy (zx ?_)
        refine yO (i := 5) (by kernel_rfl) rfl ((s_append (id := 1021) rfl rfl rfl (nb hn rfl) elt22 trivial rfl rfl rfl (by simp [chunk]; omega) (by simp [chunk]; omega) (fun b hb => trivial)).i rfl) fun v46 => ?_
        refine zy (zx ?_)
        have hcall := ih k1 rfl (hs ++ [h]) (j + (firsts l N k1 hs c).length) i1 (by rw [List.length_append, List.length_singleton]; omega) (fun x hx => by rcases List.mem_append.1 hx with hx | hx; exact hb5 x hx; (rw [List.mem_singleton] at hx; subst hx; exact hhb)) hsg hAc
        rw [yn] at hcall
        refine zAr (g_row (t := 46) (id := 1021) rfl rfl) ?_
        refine yO (i := 6) (by kernel_rfl) rfl ((s_callE (hcall) rfl rfl rfl (nb hn rfl) (.t rfl) rfl (.refl _) ⟨rfl, rfl, rfl, trivial⟩ (fun _ => rfl) (fun _ _ => trivial)).i rfl) fun ⟨⟨by2, i2⟩, hq1, hq0⟩ => ?_
        refine zy ?_
        refine d1qI (i := 7) rfl (by kernel_rfl) rfl (fun _ _ _ _ h => h) rfl rfl hn rfl (yE rfl rfl) ?_
        refine zx ?_
        refine kB (by kernel_rfl) ?_
        exact aend_join_on hJ3 ⟨(by2, i2), hq1, hq0⟩ ⟨.inl rfl, zK _⟩ ⟨.inl rfl, .inl rfl, .inl rfl, zW _⟩ (by repeat (first | exact kr _ | refine kc rfl ?_)) (by repeat (first | exact kr _ | refine kc rfl ?_))
       ·
        refine brI rfl ((s_append (id := 1021) rfl rfl rfl (nb hn rfl) elt22 trivial rfl rfl rfl (by simp [chunk]; omega) (by simp [chunk]; omega) (fun b hb => trivial)).i rfl) fun v46 => ?_
        refine zy (zx ?_)
        refine yO (i := 0) (by kernel_rfl) rfl ((zz _ [] (zJ rfl) rfl (nb hn rfl) (fun _ => trivial) (fun _ => zN rfl rfl (id := 1032) rfl Tryz.underlying199 rfl rfl sees0)).i rfl) fun _ => ?_
        refine zy (zx ?_)
        have hcall := ih k1 rfl (hs ++ [h]) (j + (firsts l N k1 hs c).length) i1 (by rw [List.length_append, List.length_singleton]; omega) (fun x hx => by rcases List.mem_append.1 hx with hx | hx; exact hb5 x hx; (rw [List.mem_singleton] at hx; subst hx; exact hhb)) hsg hAc
        rw [yn] at hcall
        refine zAr (g_row (t := 46) (id := 1021) rfl rfl) ?_
        refine yO (i := 6) (by kernel_rfl) rfl ((s_callE (hcall) rfl rfl rfl (nb hn rfl) (.t rfl) rfl (.refl _) ⟨rfl, rfl, rfl, trivial⟩ (fun _ => rfl) (fun _ _ => trivial)).i rfl) fun ⟨⟨by2, i2⟩, hq1, hq0⟩ => ?_
        refine zy ?_
        refine d1qI (i := 7) rfl (by kernel_rfl) rfl (fun _ _ _ _ h => h) rfl rfl hn rfl (yE rfl rfl) ?_
        refine zx ?_
        refine kB (by kernel_rfl) ?_
        exact aend_join_on hJ3 ⟨(by2, i2), hq1, hq0⟩ ⟨.inl rfl, zK _⟩ ⟨.inl rfl, .inl rfl, .inl rfl, zW _⟩ (by repeat (first | exact kr _ | refine kc rfl ?_)) (by repeat (first | exact kr _ | refine kc rfl ?_))
     ·
      refine brI rfl ((zb rfl rfl rfl (nb hn rfl) Tryz.underlying22 sz3 zr3 rfl rfl rfl (show _ = [.d (.int .i64 0)] from by kernel_rfl) (by kernel_rfl) rfl rfl rfl rfl rfl).i rfl) fun _ => ?_
      refine zy (zx ?_)
      refine zAa 0 [2] (by kernel_rfl) ⟨?_, ?_, trivial⟩
      ·
       refine brI rfl ((zz _ [] (zJ rfl) rfl (nb hn rfl) (fun _ => trivial) (fun _ => zN rfl rfl (id := 1032) rfl Tryz.underlying199 rfl rfl sees0)).i rfl) fun _ => ?_
       refine zy (zx ?_)
       refine yO (i := 2) (by kernel_rfl) rfl ((s_callE (yT hs (by omega)) rfl rfl rfl (nb hn rfl) (.d rfl) rfl (.refl _) trivial (fun _ => rfl) (fun _ _ => trivial)).i rfl) fun vc => ?_
       refine zy (zx ?_)
       refine yO (i := 5) (by kernel_rfl) rfl ((s_append (id := 1021) rfl rfl rfl (nb hn rfl) elt22 trivial rfl rfl rfl (by simp [chunk]; omega) (by simp [chunk]; omega) (fun b hb => trivial)).i rfl) fun v46 => ?_
       refine zy (zx ?_)
       have hcall := ih k1 rfl (hs ++ [h]) (j + (firsts l N k1 hs c).length) i1 (by rw [List.length_append, List.length_singleton]; omega) (fun x hx => by rcases List.mem_append.1 hx with hx | hx; exact hb5 x hx; (rw [List.mem_singleton] at hx; subst hx; exact hhb)) hsg hAc
       rw [yn] at hcall
       refine zAr (g_row (t := 46) (id := 1021) rfl rfl) ?_
       refine yO (i := 6) (by kernel_rfl) rfl ((s_callE (hcall) rfl rfl rfl (nb hn rfl) (.t rfl) rfl (.refl _) ⟨rfl, rfl, rfl, trivial⟩ (fun _ => rfl) (fun _ _ => trivial)).i rfl) fun ⟨⟨by2, i2⟩, hq1, hq0⟩ => ?_
       refine zy ?_
       refine d1qI (i := 7) rfl (by kernel_rfl) rfl (fun _ _ _ _ h => h) rfl rfl hn rfl (yE rfl rfl) ?_
       refine zx ?_
       refine kB (by kernel_rfl) ?_
       exact aend_join_on hJ3 ⟨(by2, i2), hq1, hq0⟩ ⟨.inl rfl, zK _⟩ ⟨.inl rfl, .inl rfl, .inl rfl, zW _⟩ (by repeat (first | exact kr _ | refine kc rfl ?_)) (by repeat (first | exact kr _ | refine kc rfl ?_))
      ·
       refine brI rfl ((s_callE (yT hs (by omega)) rfl rfl rfl (nb hn rfl) (.d rfl) rfl (.refl _) trivial (fun _ => rfl) (fun _ _ => trivial)).i rfl) fun vc => ?_
       refine zy (zx ?_)
       refine zAa 0 [5] (by kernel_rfl) ⟨?_, ?_, trivial⟩
       ·
        refine brI rfl ((zz _ [] (zJ rfl) rfl (nb hn rfl) (fun _ => trivial) (fun _ => zN rfl rfl (id := 1032) rfl Tryz.underlying199 rfl rfl sees0)).i rfl) fun _ => ?_
        refine zy (zx ?_)
        refine yO (i := 5) (by kernel_rfl) rfl ((s_append (id := 1021) rfl rfl rfl (nb hn rfl) elt22 trivial rfl rfl rfl (by simp [chunk]; omega) (by simp [chunk]; omega) (fun b hb => trivial)).i rfl) fun v46 => ?_
        refine zy (zx ?_)
        have hcall := ih k1 rfl (hs ++ [h]) (j + (firsts l N k1 hs c).length) i1 (by rw [List.length_append, List.length_singleton]; omega) (fun x hx => by rcases List.mem_append.1 hx with hx | hx; exact hb5 x hx; (rw [List.mem_singleton] at hx; subst hx; exact hhb)) hsg hAc
        rw [yn] at hcall
        refine zAr (g_row (t := 46) (id := 1021) rfl rfl) ?_
        refine yO (i := 6) (by kernel_rfl) rfl ((s_callE (hcall) rfl rfl rfl (nb hn rfl) (.t rfl) rfl (.refl _) ⟨rfl, rfl, rfl, trivial⟩ (fun _ => rfl) (fun _ _ => trivial)).i rfl) fun ⟨⟨by2, i2⟩, hq1, hq0⟩ => ?_
        refine zy ?_
        refine d1qI (i := 7) rfl (by kernel_rfl) rfl (fun _ _ _ _ h => h) rfl rfl hn rfl (yE rfl rfl) ?_
        refine zx ?_
        refine kB (by kernel_rfl) ?_
        exact aend_join_on hJ3 ⟨(by2, i2), hq1, hq0⟩ ⟨.inl rfl, zK _⟩ ⟨.inl rfl, .inl rfl, .inl rfl, zW _⟩ (by repeat (first | exact kr _ | refine kc rfl ?_)) (by repeat (first | exact kr _ | refine kc rfl ?_))
       ·
        refine brI rfl ((s_append (id := 1021) rfl rfl rfl (nb hn rfl) elt22 trivial rfl rfl rfl (by simp [chunk]; omega) (by simp [chunk]; omega) (fun b hb => trivial)).i rfl) fun v46 => ?_
        refine zy (zx ?_)
        refine yO (i := 0) (by kernel_rfl) rfl ((zz _ [] (zJ rfl) rfl (nb hn rfl) (fun _ => trivial) (fun _ => zN rfl rfl (id := 1032) rfl Tryz.underlying199 rfl rfl sees0)).i rfl) fun _ => ?_
        refine zy (zx ?_)
        have hcall := ih k1 rfl (hs ++ [h]) (j + (firsts l N k1 hs c).length) i1 (by rw [List.length_append, List.length_singleton]; omega) (fun x hx => by rcases List.mem_append.1 hx with hx | hx; exact hb5 x hx; (rw [List.mem_singleton] at hx; subst hx; exact hhb)) hsg hAc
        rw [yn] at hcall
        refine zAr (g_row (t := 46) (id := 1021) rfl rfl) ?_
        refine yO (i := 6) (by kernel_rfl) rfl ((s_callE (hcall) rfl rfl rfl (nb hn rfl) (.t rfl) rfl (.refl _) ⟨rfl, rfl, rfl, trivial⟩ (fun _ => rfl) (fun _ _ => trivial)).i rfl) fun ⟨⟨by2, i2⟩, hq1, hq0⟩ => ?_
        refine zy ?_
        refine d1qI (i := 7) rfl (by kernel_rfl) rfl (fun _ _ _ _ h => h) rfl rfl hn rfl (yE rfl rfl) ?_
        refine zx ?_
        refine kB (by kernel_rfl) ?_
        exact aend_join_on hJ3 ⟨(by2, i2), hq1, hq0⟩ ⟨.inl rfl, zK _⟩ ⟨.inl rfl, .inl rfl, .inl rfl, zW _⟩ (by repeat (first | exact kr _ | refine kc rfl ?_)) (by repeat (first | exact kr _ | refine kc rfl ?_))
    ·
     rintro ⟨⟨by2, i2⟩, hq1, hq0⟩
     dsimp only
     refine zn ?_
     refine yu rfl (fun hb4 => ?_) (fun hb4 => ?_)
     ·
      have hb2f : by2 = false := notT hb4
      refine yA (zo ?_)
      refine sqI rfl rfl hn rfl (zF rfl rfl) rfl ?_
      refine z8 (zn (zBb (zZ (zM (zM (zZ (zM ?_)))))))
      exact ret_E (.inl rfl) ⟨(false, i2), fun h => (by cases h), fun _ => hq0 hb2f⟩ (yG rfl (.tmp rfl)) ⟨rfl, rfl, rfl, trivial⟩
     ·
      have hb3t := hb4
      refine yt (zX (zn (zo ?_)))
      refine sqI rfl rfl hn rfl (zq rfl rfl rfl (r := ((c + 1 : Nat) : Int)) (i64w (by omega) (by omega))) rfl ?_
      refine sqI rfl rfl hn rfl (zG rfl rfl) rfl ?_
      refine z8 ?_
      exact zU ⟨(c + 1, i2), by omega, by dsimp only; rw [zDA hch, List.length_append, ← Nat.add_assoc]; exact (hq1 (notF hb3t))⟩ ⟨.inl rfl, zK _⟩ ⟨.inl rfl, .inl rfl, .inl rfl, zW _⟩ (by simp only; omega) (by repeat (first | exact kr _ | refine kc rfl ?_)) (by repeat (first | exact kr _ | refine kc rfl ?_))
   ·
    obtain rfl : c = (candL l.reg N hs.length).length := by simp at hb2; omega
    refine zAs (zI (zI (zS (zn (yA (zo ?_))))))
    refine sqI rfl rfl hn rfl (zF rfl rfl) rfl ?_
    refine z8 (zn (zBb ?_))
    exact ret_E (.inl rfl) ⟨(true, i1), fun _ => by rw [hpz]; exact hAc, fun h => by cases h⟩ (yG rfl (.tmp rfl)) ⟨rfl, rfl, rfl, trivial⟩
end Go.Proofs.YtaokpncjemkhcaaGreat
