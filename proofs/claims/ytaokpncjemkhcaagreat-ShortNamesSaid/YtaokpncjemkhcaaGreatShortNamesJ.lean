/-
  A part of the proof that contangolaw.ShortNames returns true: what the last text needs, and no more. No condition: no statement of the seat is proved here.
-/
import Derived.Sort.Grow
import Derived.Test.YtaokpncjemkhcaaGreatShortNamesI
namespace Go.Proofs.YtaokpncjemkhcaaGreat
open Go.RowKit Go.Sort
set_option linter.all false
theorem kJ {F : Nat → Nat → Prop} {w : World} : ∀ {l : List Int} {xs : List Value}, TReps F w (l.map fun n => TV.d (.int .i64 n)) xs ↔ xs = l.map (Value.int .i64)
  | [], xs => Iff.rfl
  | n :: l, xs => by
    constructor
    · rintro ⟨u, us, rfl, h1, h2⟩
      simp only [TRep, Rep] at h1
      rw [h1, kJ.1 h2]; rfl
    · rintro rfl
      exact ⟨.int .i64 n, _, rfl, rfl, kJ.2 rfl⟩
theorem zDt (l l' : List Int) (ys : List Value) (h : l'.length = l.length) : (putCells (Value.int .i64) 0 l'.toArray (l.map (Value.int .i64) ++ ys).toArray).toList = l'.map (Value.int .i64) ++ ys := by
  apply List.ext_getElem?
  intro k
  rw [Array.getElem?_toList]
  unfold putCells
  rw [Array.getElem?_mapIdx]
  by_cases hk : k < l.length
  · have e : (l.map (Value.int .i64) ++ ys).toArray[k]? = some (.int .i64 l[k]) := by simp [List.getElem?_append_left, hk]
    rw [e, List.getElem?_append_left (by simpa [h] using hk)]
    have hk' : k < l'.length := by omega
    simp [hk', h, hk]
  · rw [List.getElem?_append_right (by simp [h]; omega)]
    have e : (l.map (Value.int .i64) ++ ys).toArray[k]? = ys[k - l.length]? := by
      rw [List.getElem?_toArray, List.getElem?_append_right (by simp; omega)]; simp
    rw [e]
    cases hy : ys[k - l.length]? with
    | none => simp [hy, h]
    | some y =>
      have : ¬ k < l'.length := by omega
      simp [hy, h, this, hk]
theorem zCN {P : Program} {f : FuncId} {b cap : Nat} {l l' : List Int} {rest : List TV} {ty : TypeId} {v : Value} (he : Ent P f) (hl : l'.length = l.length)
    (hc : ∀ w, Holds (Value.int .i64) w b 0 l.toArray → b < w.heap.size → Calls P f #[.slice (some ⟨b, 0, none⟩) l.length cap] w fun e w' => e = .returned v ∧ ∃ n os, w' = Go.Sort.grow (putRow (Value.int .i64) (Go.Sort.ahead w n) b 0 l'.toArray) os) :
    EffAt P f [.val (.slice (some ⟨b, 0, none⟩) l.length cap)] [(1005, .box b ty (l.map (fun n => TV.d (.int .i64 n)) ++ rest))] (X := Unit) (fun _ => .val v) (fun _ => [(1005, .box b ty (l'.map (fun n => TV.d (.int .i64 n)) ++ rest))]) := by
  refine ⟨he, fun w F vs hr hh => ?_⟩
  obtain ⟨u, us, rfl, hu, hus⟩ := hr
  cases hus
  simp only [TRep] at hu
  subst hu
  obtain ⟨hown, hF, cs, hb, hcs, hone⟩ := hh.res 1005 _ (zb _ _ _)
  obtain ⟨xs, ys, rfl, hxs, hys⟩ := hcs.puts
  obtain rfl := kJ.1 hxs
  have hlt := yS hb
  have hH : Holds (Value.int .i64) w b 0 l.toArray := fun j hj => by
    have hj' : j < l.length := by simpa using hj
    rw [Nat.zero_add]
    constructor
    · rw [yY hb, List.getElem?_append_left (by simpa using hj')]
      simp [hj']
    · simp [World.frozen?, hb]
  refine (hc w hH hlt).mono fun e w' hw => ?_
  obtain ⟨rfl, n, os, rfl⟩ := hw
  have hblk : ∀ k, k < w.heap.size → k ≠ b → (Go.Sort.grow (putRow (Value.int .i64) (Go.Sort.ahead w n) b 0 l'.toArray) os).heap[k]? = w.heap[k]? := fun k hk hkb => by
    simp only [Go.Sort.grow, putRow, mapBlock, Go.Sort.ahead]
    rw [Array.getElem?_append_left (by simpa using hk), Array.getElem?_modify, if_neg (Ne.symm hkb)]
  have hbb : (Go.Sort.grow (putRow (Value.int .i64) (Go.Sort.ahead w n) b 0 l'.toArray) os).heap[b]? = some (.cells (l'.map (Value.int .i64) ++ ys).toArray ty (0, 0)) := by
    simp only [Go.Sort.grow, putRow, mapBlock, Go.Sort.ahead]
    rw [Array.getElem?_append_left (by simpa using hlt), Array.getElem?_modify, if_pos rfl, hb]
    simp only [Option.map_some, onCells, Option.some.injEq, Obj.cells.injEq, and_self, and_true]
    apply Array.ext'
    rw [zDt l l' ys hl]
  have hcell : ∀ c o, F c o → (Go.Sort.grow (putRow (Value.int .i64) (Go.Sort.ahead w n) b 0 l'.toArray) os).cell? ⟨c, o, none⟩ = w.cell? ⟨c, o, none⟩ := fun c o hf => by
    have hcb : c ≠ b := fun e => by subst e; exact hF o hf
    obtain ⟨u, hu⟩ := hh.fcell c o hf
    have := hblk c (World.block_lt_of_cell? w ⟨c, o, none⟩ hu) hcb
    simp [World.cell?, this]
  have hsz : w.heap.size ≤ (Go.Sort.grow (putRow (Value.int .i64) (Go.Sort.ahead w n) b 0 l'.toArray) os).heap.size := by simp [Go.Sort.grow, putRow, mapBlock, Go.Sort.ahead]
  refine ⟨(), v, F, rfl, rfl, {
    os := rfl
    tape := rfl
    output := rfl
    hsize := hsz
    old := fun k hk hkl => hblk k hk (fun e => hkl ⟨1005, _, zb _ _ _, e.symm⟩)
    fcell := fun c o hf => by obtain ⟨u, hu⟩ := hh.fcell c o hf; exact ⟨u, (hcell c o hf).trans hu⟩
    glob := hh.glob
    keep := hcell
    f0 := fun _ _ h => h
    fnew := fun _ _ h _ _ => h
    res := fun i r hr => ?_
    sep := fun i i' r r' c k1 k2 _ _ => ?_ }⟩
  · rw [kT] at hr
    split at hr
    · cases hr
      refine ⟨.inr ⟨1005, _, zb _ _ _, rfl⟩, hF, _, hbb, ?_, ?_⟩
      · exact (kJ.2 rfl).append (hys.ext' fun c o hf => ⟨hf, hcell c o hf⟩)
      · intro u hu
        rcases List.mem_append.1 hu with hu | hu
        · obtain ⟨m, _, rfl⟩ := List.mem_map.1 hu; rfl
        · exact hone u (by simp [hu])
    · simp [lk] at hr
  · rw [kT] at k1 k2
    split at k1 <;> split at k2
    · omega
    · simp [lk] at k2
    · simp [lk] at k1
    · simp [lk] at k1
def sortL (l : List Int) : List Int := l.mergeSort fun x y => decide (x ≤ y)
def compL (l : List Int) : List Int := Lib.compact l
theorem sort_eff (b cap : Nat) (l : List Int) (rest : List TV) (ty : TypeId) (h : l.length < 4611686018427387904) :
    EffAt Tryz.prog 153 [.val (.slice (some ⟨b, 0, none⟩) l.length cap)] [(1005, .box b ty (l.map (fun n => TV.d (.int .i64 n)) ++ rest))] (X := Unit) (fun _ => .val (.tuple #[])) (fun _ => [(1005, .box b ty ((sortL l).map (fun n => TV.d (.int .i64 n)) ++ rest))]) :=
  zCN (kZ (fn := Tryz.f153) (by kernel_rfl) rfl rfl) (List.length_mergeSort _) fun w hH hlt => Tryz.slices_Sort_int b 0 cap l w hH hlt h
theorem zD7 (l : List Int) : (Lib.compact l).length ≤ l.length := by
  unfold Lib.compact Lib.compactUpTo
  rw [List.length_map]
  exact Nat.le_trans (List.length_filter_le _ _) (by simp)
theorem compact_eff (b cap n : Nat) (l : List Int) (rest : List TV) (ty : TypeId) (hn : l.length = n) (h : n ≤ 9223372036854775807) (hcap : n ≤ cap) :
    EffAt Tryz.prog 154 [.val (.slice (some ⟨b, 0, none⟩) n cap)] [(1005, .box b ty (l.map (fun n => TV.d (.int .i64 n)) ++ rest))] (X := Unit) (fun _ => .val (.slice (some ⟨b, 0, none⟩) (compL l).length cap))
      (fun _ => [(1005, .box b ty ((compL l ++ List.replicate (n - (compL l).length) 0).map (fun n => TV.d (.int .i64 n)) ++ rest))]) := by
  subst hn
  exact zCN (kZ (fn := Tryz.f154) (by kernel_rfl) rfl rfl) (by have := zD7 l; simp only [List.length_append, List.length_replicate, compL]; omega) fun w hH hlt =>
    (Tryz.slices_Compact_int b 0 cap l w hH h hcap).mono fun e w' ⟨he, q, hw⟩ => ⟨he, q, #[], by rw [hw, Go.Sort.grow_empty]; rfl⟩
end Go.Proofs.YtaokpncjemkhcaaGreat
namespace Go.Proofs.YtaokpncjemkhcaaGreat
open Go.RowKit
set_option maxRecDepth 20000
set_option linter.all false
theorem ask_bad {r : Reg} {is : Bool} {N e : Int} {out : List Nat} (h : AskP r is N out e) (he : e ≠ 0) : out = [] := by
  rcases h with ⟨_, h, _⟩ | ⟨_, _, h, _⟩ | ⟨_, _, n, _, _, _, h⟩
  · exact h
  · exact h
  · cases out with
    | nil => rfl
    | cons d l => exact (he h).elim
theorem ask_good {r : Reg} {is : Bool} {N : Int} {out : List Nat} (h : AskP r is N out 0) : Valid r ∧ is = true ∧ ∃ n : Nat, N = n ∧ n ≤ 9 ∧ EvOK r n out ∧ out ≠ [] := by
  rcases h with ⟨h0, _, h⟩ | ⟨_, _, _, h⟩ | ⟨h0, hi, n, hN, h9, hev, h⟩
  · exact (h0 h.symm).elim
  · cases h
  · refine ⟨zBK h0, hi, n, hN, h9, hev, fun e => ?_⟩
    subst e
    cases h
def holdL (r : Reg) (out : List Nat) (s : Nat) : List Int := out.map fun d => (placesA r d).getD s 0
def holdR (r : Reg) (s : Int) (out : List Nat) : List Int := compL (sortL (holdL r out s.toNat))
theorem hold_nil (r : Reg) (s : Int) : holdR r s [] = [] := by
  unfold holdR holdL compL sortL
  rw [List.map_nil, List.mergeSort_nil]
  rfl
theorem sheetB_bd {r : Reg} {s : Int} (v : Valid r) (h : sheetB r s = true) : 0 ≤ s ∧ s < r.start.length ∧ s.toNat < 4 := by
  have := v.s4
  simp [sheetB] at h
  omega
theorem zDZ {l : List Int} {i : Nat} {x : Int} (h : l[i]? = some x) : (l.take i).map (fun n => TV.d (.int .i64 n)) ++ ([[D.int .i64 x]].flatten.map TV.d) = (l.take (i + 1)).map fun n => TV.d (.int .i64 n) := by
  rw [List.take_add_one, h]; simp
theorem comp_split (l : List Int) (k : Nat) (rest : List TV) : ((compL l ++ List.replicate k 0).map (fun n => TV.d (.int .i64 n)) ++ rest) = ((compL l).map intD).map .d ++ ((List.replicate k 0).map (fun n => TV.d (.int .i64 n)) ++ rest) := by
  simp [intD]
theorem Holders_eff (r : Reg) (s day : Int) : EffAt Tryz.prog 141 [.d (regD r), .d (.int .i64 s), .d (.int .i64 day)] [] (X := AskX r (sheetB r s) day) (fun x => .d (.tup [ints (holdR r s x.1.1), .int .i64 x.1.2])) (fun _ => []) := by
 refine EffAt.of_awp Tryz.func141 rfl (by kernel_rfl) rfl fun Γ hn => ?_
 refine zC (zB ?_)
 refine stepW (zr 3 rfl rfl rfl (nb hn rfl) rfl rfl) fun b3 => ?_
 refine sq rfl rfl hn rfl (zF rfl rfl) ?_
 refine sq rfl rfl hn rfl (zF rfl rfl) ?_
 refine zE (zA (zC ?_))
 refine zx (zn (t := 3) 3 rfl (nb hn rfl) rfl rfl trivial) ?_
 refine yC (W := fun b => True) fmo ?_
 refine d1q (i := 0) rfl (by kernel_rfl) (fun _ _ _ _ h => h) rfl rfl hn rfl (ze rfl rfl Tryz.underlying44 rfl sz44 rfl rfl seesFA) ?_
 refine d1q (i := 1) rfl (by kernel_rfl) (fun _ _ _ _ h => h) rfl rfl hn rfl (ze rfl rfl Tryz.underlying44 rfl sz44 rfl rfl seesFA) ?_
 refine d1q (i := 2) rfl (by kernel_rfl) (fun _ _ _ _ h => h) rfl rfl hn rfl (zG rfl rfl) ?_
 refine d1q (i := 4) rfl (by kernel_rfl) (fun _ _ _ _ h => h) rfl rfl hn rfl (zG rfl rfl) ?_
 refine zM ?_
 refine zk (i := 3) (by kernel_rfl) rfl (s_call [] (fun _ => zB8 r s) rfl (zI rfl) rfl (nb hn rfl) (fun _ => trivial) rfl rfl (.refl _)) fun _ => ?_
 refine d2_of_d1 (zM ?_)
 refine zk (i := 5) (by kernel_rfl) rfl (s_callE (asked_ok r (sheetB r s) day) rfl rfl rfl (nb hn rfl) (.d rfl) rfl (.refl _) trivial (fun _ => rfl) (fun _ _ => trivial)) fun ⟨⟨out, e⟩, hx⟩ => ?_
 refine d2_of_d1 ?_
 refine d1q (i := 6) rfl (by kernel_rfl) (fun _ _ _ _ h => h) rfl rfl hn rfl (zG rfl rfl) ?_
 refine d1q (i := 7) rfl (by kernel_rfl) (fun _ _ _ _ h => h) rfl rfl hn rfl (zT rfl rfl rfl) ?_
 refine d1q (i := 8) rfl (by kernel_rfl) (fun _ _ _ _ h => h) rfl rfl hn rfl (zT rfl rfl rfl) ?_
 refine d1q (i := 9) rfl (by kernel_rfl) (fun _ _ _ _ h => h) rfl rfl hn rfl (zF rfl rfl) ?_
 refine d1q (i := 10) rfl (by kernel_rfl) (fun _ _ _ _ h => h) rfl rfl hn rfl (zF rfl rfl) ?_
 refine zM ?_
 refine zv (by kernel_rfl) ?_
 refine zA (zC (zC (zB ?_)))
 refine sq rfl rfl hn rfl (zG rfl rfl) ?_
 refine sq rfl rfl hn rfl (yX rfl rfl rfl) ?_
 refine zE (zA ?_)
 refine zS rfl (fun hb0 => ?_) (fun hb0 => ?_)
 ·
  have hee : e ≠ 0 := by simpa using hb0
  obtain rfl := ask_bad hx hee
  refine zC (zB ?_)
  refine sq rfl rfl hn rfl (zG rfl rfl) ?_
  refine sq rfl rfl hn rfl (zF rfl rfl) ?_
  refine sq rfl rfl hn rfl (zF rfl rfl) ?_
  refine zE (zA (zO (zL ?_)))
  exact ret_E (.inl rfl) ⟨([], e), hx⟩ ((yj rfl (.tmp rfl) (.tmp rfl)).le (by rw [hold_nil]; exact .tup (.cons (.nil 1) (.refl _)))) trivial
 ·
  have he0 : e = 0 := by simpa using hb0
  subst he0
  obtain ⟨v, his, n, rfl, hN, hev, hne⟩ := ask_good hx
  have hd64 := ev_bd v hN hev
  have ho64 : out.length ≤ 64 := hev.2.1
  obtain ⟨hs0, hs1, hs4⟩ := sheetB_bd v his
  obtain ⟨hl, hhl⟩ : ∃ hl, hl = holdL r out s.toNat := ⟨_, rfl⟩
  have hll : hl.length = out.length := by rw [hhl, holdL, List.length_map]
  refine zU (zA (zC (zB ?_)))
  refine sq rfl rfl hn rfl (zF rfl rfl) ?_
  refine zE (zA (zC (zC ?_)))
  refine zx (g_nilV (t := 10) 1005 rfl) ?_
  refine zB ?_
  refine sq rfl rfl hn rfl (zG rfl rfl) ?_
  refine sq rfl rfl hn rfl (z7 rfl rfl Tryz.underlying107) ?_
  refine sq rfl rfl hn rfl (zG rfl rfl) ?_
  refine zE (zA (zV ?_))
  refine awp_loop_on (ι := {x : Nat × Value // x.1 ≤ out.length ∧ VecV x.2 1 ((hl.take x.1).map fun n => TV.d (.int .i64 n))}) (fun x => (27, true, .d (.int .i64 (x.1.1 : Nat))) :: (10, true, .val x.1.2) :: anys [28, 29, 30, 12, 31, 32, 33, 34, 35, 36, 37, 38, 39]) (fun x => [(1005, vecRes 3 x.1.2 1 ((hl.take x.1.1).map fun n => TV.d (.int .i64 n)))]) (fun x => out.length - x.1.1) ⟨(0, .slice none 0 0), by simp, VecV.nil 1⟩ ⟨.inl rfl, .inl rfl, zJ _⟩ ⟨.inl rfl, trivial⟩ ?_
  rintro ⟨⟨i, vv⟩, hi, hV⟩
  dsimp only
  dsimp only at hi hV
  refine zC (zB ?_)
  refine sq rfl rfl hn rfl (yJ rfl rfl rfl) ?_
  refine zE (zA (zC ?_))
  refine zS rfl (fun hb1 => ?_) (fun hb1 => ?_)
  ·
   try simp only [decide_eq_true_eq, decide_eq_false_iff_not, Bool.and_eq_true, Bool.or_eq_true, Bool.and_eq_false_iff, Bool.or_eq_false_iff, Bool.not_eq_true', Bool.not_eq_false', beq_iff_eq, bne_iff_ne, ne_eq, beq_eq_false_iff_ne, bne_eq_false_iff_eq, Int.not_lt, Int.not_le] at hb1
   have hlt : i < out.length := by simp only [List.length_map] at hb1; omega
   obtain ⟨d, hd⟩ := z2 hlt
   have hxl : hl[i]? = some ((placesA r d).getD s.toNat 0) := by rw [hhl]; exact mget hd
   have hpl := kE r d
   refine zU (zA (zC (zV (zC (zB ?_)))))
   refine sq rfl rfl hn rfl (q_index rfl rfl rfl Tryz.underlying107 sz150 rfl (mget hd)) ?_
   refine sq rfl rfl hn rfl (zR rfl rfl Tryz.underlying150 rfl seesF0) ?_
   refine sq rfl rfl hn rfl (zF rfl rfl) ?_
   refine zE (zA (zB ?_))
   refine sq rfl rfl hn rfl (zG rfl rfl) ?_
   refine sq rfl rfl hn rfl (ze rfl rfl Tryz.underlying44 rfl sz44 rfl rfl seesF0) ?_
   refine sq rfl rfl hn rfl (zG rfl rfl) ?_
   refine stepW (s_call [] (fun _ => zBP r d v (hd64 d (List.mem_of_getElem? hd))) rfl (zI rfl) rfl (nb hn rfl) (fun _ => trivial) rfl rfl (.refl _)) fun _ => ?_
   refine sq rfl rfl hn rfl (zG rfl rfl) ?_
   refine sq rfl rfl hn rfl (q_indexAgg (i := s.toNat) rfl rfl rfl Tryz.underlying151 Tryz.underlying3 rfl sz3 (by omega) (by omega) (mget (getD_some (by omega)))) ?_
   refine stepW (zP rfl rfl rfl (nb hn rfl) Tryz.underlying22 sz3 zr3 rfl rfl rfl (show _ = [.d (.int .i64 0)] from by kernel_rfl) (by kernel_rfl) rfl (fill_int rfl) rfl rfl rfl) fun _ => ?_
   refine stepW (zAb (id := 1005) rfl rfl rfl (nb hn rfl) elt22 zr3 rfl hV rfl rfl rfl (by simp [chunk, List.length_take]; omega) (by simp [chunk, List.length_take]; omega) (fun _ _ => trivial)) fun ⟨v38, hV38⟩ => ?_
   refine sq rfl rfl hn rfl (zF rfl rfl) ?_
   refine zE (za (zA (zB ?_)))
   refine sq rfl rfl hn rfl (z6 rfl rfl rfl (r := ((i + 1 : Nat) : Int)) (i64w (by omega) (by omega))) ?_
   refine sq rfl rfl hn rfl (zG rfl rfl) ?_
   refine zE ?_
   exact zZ ⟨(i + 1, v38), by simp only; omega, by rw [← zDZ hxl]; exact hV38⟩ ⟨.inl rfl, .inl rfl, zJ _⟩ ⟨.inl (congrArg (fun z => some (vecRes 3 v38 1 z)) (zDZ hxl)), trivial⟩ (by simp only; omega) (by repeat (first | exact kr _ | refine kc rfl ?_)) (by repeat (first | exact kr _ | refine kc rfl ?_))
  ·
   try simp only [decide_eq_true_eq, decide_eq_false_iff_not, Bool.and_eq_true, Bool.or_eq_true, Bool.and_eq_false_iff, Bool.or_eq_false_iff, Bool.not_eq_true', Bool.not_eq_false', beq_iff_eq, bne_iff_ne, ne_eq, beq_eq_false_iff_ne, bne_eq_false_iff_eq, Int.not_lt, Int.not_le] at hb1
   have hio : i = out.length := by simp only [List.length_map] at hb1; omega
   subst hio
   rw [← hll, List.take_length] at hV
   rw [← hll, List.take_length]
   rcases hV with ⟨_, hnil⟩ | ⟨bb, nn, cap, rfl, hc1, hc2, hc3⟩
   ·
    exact absurd (List.length_eq_zero_iff.1 (by rw [← hll]; simpa using hnil)) hne
   obtain rfl : nn = hl.length := by simpa using hc3.symm
   have hcm : hl.length ≤ 64 := by omega
   refine zw (zK (zK (zW (zA (zC (zB ?_))))))
   refine sq rfl rfl hn rfl (zG rfl rfl) ?_
   refine stepW (s_callE (sort_eff bb cap hl _ 3 (by omega)) rfl rfl rfl (nb hn rfl) (.d rfl) rfl (.refl _) ⟨rfl, trivial⟩ (fun _ => rfl) (fun _ _ => trivial)) fun _ => ?_
   refine zE (zA (zC (zB ?_)))
   refine sq rfl rfl hn rfl (zG rfl rfl) ?_
   refine stepW (s_callE (compact_eff bb cap hl.length (sortL hl) _ 3 (List.length_mergeSort _) (by omega) hc1) rfl rfl rfl (nb hn rfl) (.d rfl) rfl (.refl _) ⟨rfl, trivial⟩ (fun _ => rfl) (fun _ _ => trivial)) fun _ => ?_
   refine sq rfl rfl hn rfl (zF rfl rfl) ?_
   refine sq rfl rfl hn rfl (zF rfl rfl) ?_
   refine zE (zA (zO ?_))
   refine kF (g_freezeVK (t := 6) (n := (compL (sortL hl)).length) (sz := 1) 1005 rfl rfl (comp_split _ _ _) (by simp) (zAd _) (by have := zD7 (sortL hl); have h2 : (sortL hl).length = hl.length := List.length_mergeSort _; simp only [compL]; omega) hc2) ?_
   exact ret_E (.inl rfl) ⟨(out, 0), hx⟩ ((yj rfl (.tmp rfl) (.tmp rfl)).eq (by rw [hhl]; rfl)) trivial
end Go.Proofs.YtaokpncjemkhcaaGreat
namespace Go.Proofs.YtaokpncjemkhcaaGreat
open Go.RowKit
set_option maxRecDepth 20000
set_option linter.all false
/-- A way of the walk: a spot, and the days on which what has happened happened. -/
inductive PathTo (r : Reg) : Nat → Nat → Nat → List Int → Prop
  | start : PathTo r 0 0 0 (List.replicate r.entries.length 0)
  | day {d m ts} (h : PathTo r d r.entries.length m ts) (hd : d ≤ 9) (hs : seenN r d m = true) : PathTo r (d + 1) 0 m ts
  | next {d n m ts s} (h : PathTo r d n m ts) (hd : d ≤ 9) (hs : s ∈ nextL r d n m) : PathTo r s.1 s.2.1 s.2.2 (if s.2.2 = m then ts else ts.set n (d : Int))
def ExplP (r : Reg) (x : List Int × Int) : Prop :=
  (checkE r ≠ 0 ∧ x = ([], checkE r)) ∨ (checkE r = 0 ∧ goesB r 0 0 0 = false ∧ x = ([], 9)) ∨ (checkE r = 0 ∧ goesB r 0 0 0 = true ∧ x.2 = 0 ∧ x.1.length = r.entries.length ∧ ∃ n m, PathTo r 10 n m x.1)
abbrev ES := (Nat × Nat × Nat) × List Int × (D → D → Prop) × Nat × List Nat
def ExplI (r : Reg) (x : ES) : Prop := x.1.1 ≤ 10 ∧ x.1.2.1 ≤ r.entries.length ∧ x.1.2.2 < 2 ^ r.entries.length ∧ x.2.1.length = r.entries.length ∧ Good r x.2.2.1 ∧ goesB r x.1.1 x.1.2.1 x.1.2.2 = true ∧ PathTo r x.1.1 x.1.2.1 x.1.2.2 x.2.1
def ExplX (r : Reg) : Type := {x : List Int × Int // ExplP r x}
theorem zD5 (n : Nat) : (List.replicate n [TV.d (.int .i64 0)]).flatten = (List.replicate n (0 : Int)).map fun n => TV.d (.int .i64 n) := by
  induction n with
  | zero => rfl
  | succ n ih => rw [List.replicate_succ, List.flatten_cons, ih]; rfl
theorem set_int (l : List Int) (i : Nat) (x : Int) : (l.map fun n => TV.d (.int .i64 n)).set (0 + i * 1) (.d (.int .i64 x)) = (l.set i x).map fun n => TV.d (.int .i64 n) := by
  rw [List.map_set, Nat.zero_add, Nat.mul_one]
theorem allD_ints (l : List Int) : allD (l.map fun n => TV.d (.int .i64 n)) = some (l.map intD) := by
  rw [show (l.map fun n => TV.d (.int .i64 n)) = (l.map intD).map .d by simp [intD]]
  exact zAn _
theorem sz147 : Sz Tryz.prog 147 1 := (by kernel_rfl : (Tryz.prog.info? 147).map (·.size) = some 1)
theorem zr147 : (Tryz.prog.info? 147).map (·.zero) = some (some (.pointer none)) := by kernel_rfl
theorem nextXs_len43 (r : Reg) (d n m : Nat) : ∀ x ∈ nextXs r d n m, x.length = (#[43] : Array Tmp).size := fun x hx => by
  obtain ⟨s, _, rfl⟩ := List.mem_map.1 hx
  rfl
theorem explain_ok (r : Reg) : EffAt Tryz.prog 152 [.d (regD r)] [] (X := ExplX r) (fun x => .d (.tup [ints x.1.1, .int .i64 x.1.2])) (fun _ => []) := by
 refine EffAt.of_awpM Tryz.func152 rfl (by kernel_rfl) rfl fun Γ hn => ?_
 refine zC (zB ?_)
 refine stepW (zr 1 rfl rfl rfl (nb hn rfl) rfl rfl) fun b1 => ?_
 refine sq rfl rfl hn rfl (zF rfl rfl) ?_
 refine sq rfl rfl hn rfl (zF rfl rfl) ?_
 refine zE (zA (zC (zC (zB ?_))))
 refine sq rfl rfl hn rfl (zY rfl rfl (id := 1) rfl Tryz.underlying44 rfl sz44 rfl rfl sees0) ?_
 refine stepW (s_call [] (fun _ => y6 _) rfl (zI rfl) rfl (nb hn rfl) (fun _ => trivial) rfl rfl (.refl _)) fun _ => ?_
 refine sq rfl rfl hn rfl (zF rfl rfl) ?_
 refine zE (zA (zC (zB ?_)))
 refine sq rfl rfl hn rfl (zG rfl rfl) ?_
 refine sq rfl rfl hn rfl (yX rfl rfl rfl) ?_
 refine zE (zA ?_)
 refine zS rfl (fun hb0 => ?_) (fun hb0 => ?_)
 ·
  simp only [bne_iff_ne, ne_eq] at hb0
  have hc0 : checkE r ≠ 0 := hb0
  refine zC (zB ?_)
  refine sq rfl rfl hn rfl (zG rfl rfl) ?_
  refine sq rfl rfl hn rfl (zF rfl rfl) ?_
  refine sq rfl rfl hn rfl (zF rfl rfl) ?_
  refine zE (zA (zO (zL ?_)))
  exact ret_M (.inl rfl) ⟨([], checkE r), .inl ⟨hc0, rfl⟩⟩ (.inl rfl) ((yj rfl (.tmp rfl) (.tmp rfl)).le (.tup (.cons (.nil 1) (.refl _)))) trivial rfl
 ·
  have hc0 : checkE r = 0 := by simpa using hb0
  have v := zBK hc0
  have he6 := v.e6
  refine zU (zA (zC (zB ?_)))
  refine sq rfl rfl hn rfl (zY rfl rfl (id := 1) rfl Tryz.underlying44 rfl sz44 rfl rfl sees0) ?_
  refine stepW (s_callE (zEP r) rfl rfl rfl (nb hn rfl) (.d rfl) rfl (.refl _) trivial (fun _ => rfl) (fun _ _ => trivial)) fun bw => ?_
  refine stepW (zh 5 rfl rfl rfl (nb hn rfl) zr147 rfl rfl) fun b5 => ?_
  refine stepW (s_store1 rfl rfl rfl rfl rfl rfl (id := 5) rfl sz147 (Nat.le_of_ble_eq_true rfl) rfl trivial) fun _ => ?_
  refine zE (zA (zC (zC ?_)))
  refine zx (zn (t := 5) 5 rfl (nb hn rfl) rfl rfl trivial) ?_
  refine zx (zn (t := 1) 1 rfl (nb hn rfl) rfl rfl trivial) ?_
  refine zB ?_
  refine sq rfl rfl hn rfl (zR rfl rfl Tryz.underlying147 rfl seesF0) ?_
  refine sq rfl rfl hn rfl (zg rfl bt180 rfl rfl rfl rfl rfl) ?_
  refine stepW (s_callE (zC8 r v bw 0 0 0 _ (by omega) (Nat.zero_le _) (Nat.two_pow_pos _) (zCc _)) rfl rfl rfl (nb hn rfl) (.d rfl) rfl (.refl _) ⟨rfl, trivial⟩ (fun _ => rfl) (fun _ _ => trivial)) fun ⟨M0, hM0⟩ => ?_
  refine sq rfl rfl hn rfl (yF rfl rfl) ?_
  refine zE (zA ?_)
  refine zS rfl (fun hb1 => ?_) (fun hb1 => ?_)
  ·
   have hg0 : goesB r 0 0 0 = false := by simpa using hb1
   refine zC (zB ?_)
   refine sq rfl rfl hn rfl (zF rfl rfl) ?_
   refine sq rfl rfl hn rfl (zF rfl rfl) ?_
   refine zE (zA (zO (zL ?_)))
   exact ret_M (.inl rfl) ⟨([], 9), .inr (.inl ⟨hc0, hg0, rfl⟩)⟩ (.inl rfl) ((yj rfl (.tmp rfl) (.tmp rfl)).le (.tup (.cons (.nil 1) (.refl _)))) trivial rfl
  ·
   have hg0 : goesB r 0 0 0 = true := by simpa using hb1
   refine zU (zA (zC (zB ?_)))
   refine sq rfl rfl hn rfl (zN rfl rfl Tryz.underlying44 rfl sz41 rfl) ?_
   refine sq rfl rfl hn rfl (zR rfl rfl Tryz.underlying41 rfl seesF0) ?_
   refine sq rfl rfl hn rfl (z7 rfl rfl Tryz.underlying41) ?_
   refine stepW (kW (n := r.entries.length) 23 rfl rfl rfl (nb hn rfl) Tryz.underlying22 (show _ = some (some (.int .i64 0), 1, 8) from by kernel_rfl) rfl rfl rfl (by decide) rfl rfl (by simp) (by simp) (by omega) (by omega) (by omega)) fun b23 => ?_
   refine stepW (zh 6 rfl rfl rfl (nb hn rfl) zr22 rfl rfl) fun b6 => ?_
   refine stepW (s_store1 rfl rfl rfl rfl rfl rfl (id := 6) rfl sz22 (Nat.le_of_ble_eq_true rfl) rfl trivial) fun _ => ?_
   refine zE (zA (zC (zC (zB ?_))))
   refine sq rfl rfl hn rfl (zg rfl bt180 rfl rfl rfl rfl rfl) ?_
   refine stepW (zh 7 rfl rfl rfl (nb hn rfl) zr180 rfl rfl) fun b7 => ?_
   refine stepW (zl rfl rfl rfl rfl rfl rfl (id := 7) rfl sz180 rfl (Nat.le_of_ble_eq_true rfl) rfl trivial) fun _ => ?_
   refine zE (zA (zV ?_))
   refine zx (gh_marks rfl rfl) ?_
   refine awp_loop_onM (ι := {x : ES // ExplI r x}) (fun x => (7, true, .val (.pointer (some ⟨x.1.2.2.2.1, 0, none⟩))) :: anys [25, 26, 27, 28, 29, 30, 31, 32, 33, 35, 36, 37, 34, 38, 39, 40, 41, 42, 60]) (fun x => [(7, .box x.1.2.2.2.1 180 [.d (.int .i64 (x.1.1.1 : Nat)), .d (.int .i64 (x.1.1.2.1 : Nat)), .d (.int .u64 (x.1.1.2.2 : Nat))]), (6, .box b6 22 [.val (.slice (some ⟨b23, 0, none⟩) r.entries.length r.entries.length)]), (23, .box b23 3 (x.1.2.1.map fun n => TV.d (.int .i64 n))), (1000, mapRes KS bw x.1.2.2.1), (9000, marksRes x.1.2.2.2.2)]) (fun x => x.1.2.2.2.2) (fun x => muS r x.1.1.1 x.1.1.2.1) ⟨((0, 0, 0), List.replicate r.entries.length 0, M0, b7, []), Nat.zero_le _, Nat.zero_le _, Nat.two_pow_pos _, by simp, hM0, hg0, .start⟩ ⟨.inl rfl, zJ _⟩ ⟨.inl rfl, .inl rfl, .inl (congrArg (fun z => some (Res.box b23 3 z)) (zD5 _)), .inl rfl, .inl rfl, trivial⟩ rfl ?_
   rintro ⟨⟨⟨d, n, m⟩, ts, M, b7, dm⟩, hI⟩
   dsimp only
   obtain ⟨hd, hn6, hm, hts, hM, hg, hpt⟩ := hI
   dsimp only at hd hn6 hm hts hM hg hpt
   have hm64 := lt64 he6 hm
   refine zC (zC (zB ?_))
   refine sq rfl rfl hn rfl (zH rfl rfl Tryz.underlying180 rfl sz3) ?_
   refine sq rfl rfl hn rfl (zQ rfl rfl (id := 7) rfl Tryz.underlying3 rfl rfl sees0) ?_
   refine sq rfl rfl hn rfl (zBp rfl rfl rfl) ?_
   refine zE (zA ?_)
   refine zS rfl (fun hb2 => ?_) (fun hb2 => ?_)
   ·
    try simp only [decide_eq_true_eq, decide_eq_false_iff_not, Bool.and_eq_true, Bool.or_eq_true, Bool.and_eq_false_iff, Bool.or_eq_false_iff, Bool.not_eq_true', Bool.not_eq_false', beq_iff_eq, bne_iff_ne, ne_eq, beq_eq_false_iff_ne, bne_eq_false_iff_eq, Int.not_lt, Int.not_le] at hb2
    have hd9 : d ≤ 9 := by omega
    refine zU (zA (zC (zV (zC (zC (zB ?_))))))
    refine sq rfl rfl hn rfl (zH rfl rfl Tryz.underlying180 rfl sz3) ?_
    refine sq rfl rfl hn rfl (zQ rfl rfl (id := 7) rfl Tryz.underlying3 rfl rfl sees0) ?_
    refine sq rfl rfl hn rfl (zN rfl rfl Tryz.underlying44 rfl sz41 rfl) ?_
    refine sq rfl rfl hn rfl (zR rfl rfl Tryz.underlying41 rfl seesF0) ?_
    refine sq rfl rfl hn rfl (z7 rfl rfl Tryz.underlying41) ?_
    refine sq rfl rfl hn rfl (yG rfl rfl rfl) ?_
    refine zE (zA ?_)
    refine zS rfl (fun hb3 => ?_) (fun hb3 => ?_)
    ·
     try simp only [decide_eq_true_eq, decide_eq_false_iff_not, Bool.and_eq_true, Bool.or_eq_true, Bool.and_eq_false_iff, Bool.or_eq_false_iff, Bool.not_eq_true', Bool.not_eq_false', beq_iff_eq, bne_iff_ne, ne_eq, beq_eq_false_iff_ne, bne_eq_false_iff_eq, Int.not_lt, Int.not_le] at hb3
     have hnl : n = r.entries.length := by simp only [List.length_map] at hb3; omega
     subst hnl
     have hgd := kK (r := r) (d := d) (m := m) hd9
     rw [hg] at hgd
     have hgs : seenN r d m = true ∧ goesB r (d + 1) 0 m = true := by simpa using hgd.symm
     refine zC (zB ?_)
     refine sq rfl rfl hn rfl (zR rfl rfl Tryz.underlying147 rfl seesF0) ?_
     refine sq rfl rfl hn rfl (zY rfl rfl (id := 7) rfl Tryz.underlying180 rfl sz180 rfl rfl sees0) ?_
     refine stepW (s_call [] (fun _ => zBW r bw d _ m v hd9 hm64) rfl (zI rfl) rfl (nb hn rfl) (fun _ => trivial) rfl rfl (.refl _)) fun _ => ?_
     refine sq rfl rfl hn rfl (zG rfl rfl) ?_
     refine sq rfl rfl hn rfl (zT rfl rfl rfl) ?_
     refine sq rfl rfl hn rfl (zT rfl rfl rfl) ?_
     refine stepW (zl rfl rfl rfl rfl rfl rfl (id := 7) rfl sz180 rfl (Nat.le_of_ble_eq_true rfl) rfl trivial) fun _ => ?_
     refine zE (zA (zw (zK (zW (zA (zC (zB ?_)))))))
     refine sq rfl rfl hn rfl (zY rfl rfl (id := 7) rfl Tryz.underlying180 rfl sz180 rfl rfl sees0) ?_
     refine zE (zA (zB ?_))
     refine stepW (zh 7 rfl rfl rfl (nb hn rfl) zr180 rfl rfl) fun b7 => ?_
     refine stepW (zl rfl rfl rfl rfl rfl rfl (id := 7) rfl sz180 rfl (Nat.le_of_ble_eq_true rfl) rfl trivial) fun _ => ?_
     refine zE ?_
     exact zAK ⟨((d + 1, 0, m), ts, M, b7, dm), by simp only; omega, Nat.zero_le _, hm, hts, hM, hgs.2, .day hpt hd9 hgs.1⟩ ⟨.inl rfl, zJ _⟩ ⟨.inl rfl, .inl rfl, .inl rfl, .inl rfl, .inl rfl, trivial⟩ (kp hd9) (by repeat (first | exact kr _ | refine kc rfl ?_)) (by repeat (first | exact kr _ | refine kc rfl ?_)) rfl
    ·
     try simp only [decide_eq_true_eq, decide_eq_false_iff_not, Bool.and_eq_true, Bool.or_eq_true, Bool.and_eq_false_iff, Bool.or_eq_false_iff, Bool.not_eq_true', Bool.not_eq_false', beq_iff_eq, bne_iff_ne, ne_eq, beq_eq_false_iff_ne, bne_eq_false_iff_eq, Int.not_lt, Int.not_le] at hb3
     have hnl : n < r.entries.length := by simp only [List.length_map] at hb3; omega
     obtain ⟨e, he⟩ := z2 hnl
     refine zU (zA (zC (zB ?_)))
     refine sq rfl rfl hn rfl (ze rfl rfl Tryz.underlying44 rfl sz44 rfl rfl seesF0) ?_
     refine sq rfl rfl hn rfl (zY rfl rfl (id := 7) rfl Tryz.underlying180 rfl sz180 rfl rfl sees0) ?_
     refine stepW (s_call [] (fun _ => zDO _ _ _ _) rfl (zI rfl) rfl (nb hn rfl) (fun _ => trivial) rfl rfl (.refl _)) fun _ => ?_
     refine zE (zA (zV ?_))
     refine awp_rangeFunc (ι := {x : (Nat × Nat × Nat) × List Int × (D → D → Prop) // Good r x.2.2}) (fun x => [(7, .box b7 180 [.d (.int .i64 (x.1.1.1 : Nat)), .d (.int .i64 (x.1.1.2.1 : Nat)), .d (.int .u64 (x.1.1.2.2 : Nat))]), (6, .box b6 22 [.val (.slice (some ⟨b23, 0, none⟩) r.entries.length r.entries.length)]), (23, .box b23 3 (x.1.2.1.map fun n => TV.d (.int .i64 n))), (1000, mapRes KS bw x.1.2.2)]) (fun j x => x.1.1 = (d, n, m) ∧ x.1.2.1 = ts ∧ ∀ s ∈ (nextL r d n m).take j, goesB r s.1 s.2.1 s.2.2 = false) ((fun c x => c = .exit 2 ∧ x.1.1 ∈ nextL r d n m ∧ goesB r x.1.1.1 x.1.1.2.1 x.1.1.2.2 = true ∧ x.1.2.1 = if x.1.1.2.2 = m then ts else ts.set n (d : Int))) ⟨((d, n, m), ts, M), hM⟩ ((zBz r d n m e he v hd9 (by omega) hm64)) rfl (nextXs_len43 r d n m) (by rw [hn]; rfl) (.inr rfl) ⟨rfl, rfl, rfl, rfl, trivial⟩ ⟨rfl, rfl, fun s hs => (by cases hs)⟩ (fun _ => rfl) (fun _ => rfl) rfl rfl ?_ ?_ ?_
     ·
      rintro l0 r0 Γr j0 x0 ⟨⟨s0, ts1, M1⟩, hM1⟩ hnr hrd hx0 hA0
      dsimp only at hA0 hM1
      obtain ⟨rfl, rfl, hno⟩ := hA0
      obtain ⟨s, hs, rfl⟩ := zAr hx0
      have hsin := List.mem_of_getElem? hs
      have hsm := y8 hsin
      obtain ⟨s1, s2, s3⟩ := s
      obtain rfl : d = s1 := hsm.1.symm
      obtain rfl : n + 1 = s2 := hsm.2.1.symm
      have hs3 := hsm.2.2.1
      dsimp only at hs3
      have hs3b : s3 < 2 ^ r.entries.length := zA0 hm hnl hs3
      refine zj ?_
      refine stepWI ((zh 8 rfl rfl rfl (nb (hnr.trans hn) rfl) zr180 rfl rfl).i rfl) fun b8 => ?_
      refine stepWI ((zl rfl rfl rfl rfl rfl rfl (id := 8) rfl sz180 rfl (Nat.le_of_ble_eq_true rfl) rfl trivial).i rfl) fun _ => ?_
      refine zu ?_
      refine aend_begin hrd rfl ?_
      refine yv (zz (zz (zj ?_)))
      refine sqI rfl rfl (hnr.trans hn) rfl (zR rfl rfl Tryz.underlying147 rfl seesF0) rfl ?_
      refine sqI rfl rfl (hnr.trans hn) rfl (zY rfl rfl (id := 8) rfl Tryz.underlying180 rfl sz180 rfl rfl sees0) rfl ?_
      refine stepWI ((s_callE (zC8 r v bw d (n + 1) s3 M1 hd (by omega) hs3b hM1) rfl rfl rfl (nb (hnr.trans hn) rfl) (.d rfl) rfl (.refl _) ⟨rfl, trivial⟩ (fun _ => rfl) (fun _ _ => trivial)).i rfl) fun ⟨M3, hM3⟩ => ?_
      refine sqI rfl rfl (hnr.trans hn) rfl (yF rfl rfl) rfl ?_
      refine zu (zi ?_)
      refine yg rfl (fun hb4 => ?_) (fun hb4 => ?_)
      ·
       have hgf : goesB r d (n + 1) s3 = false := by simpa using hb4
       refine zAI (zK (zW ?_))
       exact y9 ⟨((d, n, m), ts1, M3), hM3⟩ ⟨rfl, rfl, fun s hs2 => by rw [List.take_add_one, hs] at hs2; rcases List.mem_append.1 hs2 with h | h; exact hno s h; simp at h; subst h; exact hgf⟩ ⟨rfl, rfl, rfl, rfl, rfl, trivial⟩
      ·
       have hgt : goesB r d (n + 1) s3 = true := by simpa using hb4
       refine yi (zi (zz (zz (zj ?_))))
       refine sqI rfl rfl (hnr.trans hn) rfl (zH rfl rfl Tryz.underlying180 rfl sz150) rfl ?_
       refine sqI rfl rfl (hnr.trans hn) rfl (zQ rfl rfl (id := 8) rfl Tryz.underlying150 rfl rfl sees0) rfl ?_
       refine sqI rfl rfl (hnr.trans hn) rfl (zH rfl rfl Tryz.underlying180 rfl sz150) rfl ?_
       refine sqI rfl rfl (hnr.trans hn) rfl (zQ rfl rfl (id := 7) rfl Tryz.underlying150 rfl rfl sees0) rfl ?_
       refine sqI rfl rfl (hnr.trans hn) rfl (yX rfl rfl rfl) rfl ?_
       refine zu (zi ?_)
       refine yg rfl (fun hb5 => ?_) (fun hb5 => ?_)
       ·
        have hne : s3 ≠ m := by simp at hb5; omega
        refine zj ?_
        refine sqI rfl rfl (hnr.trans hn) rfl (zQ rfl rfl (id := 6) rfl Tryz.underlying22 rfl rfl sees0) rfl ?_
        refine sqI rfl rfl (hnr.trans hn) rfl (zH rfl rfl Tryz.underlying180 rfl sz3) rfl ?_
        refine sqI rfl rfl (hnr.trans hn) rfl (zQ rfl rfl (id := 7) rfl Tryz.underlying3 rfl rfl sees0) rfl ?_
        refine sqI rfl rfl (hnr.trans hn) rfl (zH rfl rfl Tryz.underlying180 rfl sz3) rfl ?_
        refine sqI rfl rfl (hnr.trans hn) rfl (zQ rfl rfl (id := 7) rfl Tryz.underlying3 rfl rfl sees0) rfl ?_
        refine sqI rfl rfl (hnr.trans hn) rfl (q_indexV (i := n) rfl rfl rfl Tryz.underlying22 sz3 rfl (by omega)) rfl ?_
        refine stepWI ((s_store1 rfl rfl rfl rfl rfl rfl (id := 23) rfl sz3 (by simp; omega) (set_int _ _ _) trivial).i rfl) fun _ => ?_
        refine zu (zi (zz (zj ?_)))
        refine sqI rfl rfl (hnr.trans hn) rfl (zY rfl rfl (id := 8) rfl Tryz.underlying180 rfl sz180 rfl rfl sees0) rfl ?_
        refine stepWI ((zl rfl rfl rfl rfl rfl rfl (id := 7) rfl sz180 rfl (Nat.le_of_ble_eq_true rfl) rfl trivial).i rfl) fun _ => ?_
        refine zu (zi (zAI ?_))
        refine ym rfl ?_
        exact zAF ⟨((d, n + 1, s3), ts1.set n (d : Int), M3), hM3⟩ ⟨rfl, hsin, hgt, by rw [if_neg hne]⟩ ⟨rfl, rfl, rfl, rfl, rfl, trivial⟩
       ·
        have heq : s3 = m := by simp at hb5; omega
        refine yi (zi (zz (zj ?_)))
        refine sqI rfl rfl (hnr.trans hn) rfl (zY rfl rfl (id := 8) rfl Tryz.underlying180 rfl sz180 rfl rfl sees0) rfl ?_
        refine stepWI ((zl rfl rfl rfl rfl rfl rfl (id := 7) rfl sz180 rfl (Nat.le_of_ble_eq_true rfl) rfl trivial).i rfl) fun _ => ?_
        refine zu (zi (zAI ?_))
        refine ym rfl ?_
        exact zAF ⟨((d, n + 1, s3), ts1, M3), hM3⟩ ⟨rfl, hsin, hgt, by rw [if_pos heq]⟩ ⟨rfl, rfl, rfl, rfl, rfl, trivial⟩
     ·
      rintro ⟨⟨s0, ts1, M1⟩, hM1⟩ D0 hA0
      dsimp only at hA0
      obtain ⟨_, _, hno⟩ := hA0
      rw [show (nextXs r d n m).length = (nextL r d n m).length by simp [nextXs], List.take_length] at hno
      rw [kq hd9 hnl] at hg
      obtain ⟨s, hs, hs2⟩ := List.any_eq_true.1 hg
      rw [hno s hs] at hs2
      cases hs2
     ·
      rintro c0 ⟨⟨s0, ts1, M1⟩, hM1⟩ D0 hB0
      dsimp only at hB0 hM1
      obtain ⟨rfl, hsin, hsg, hts1⟩ := hB0
      obtain ⟨s1, s2, s3⟩ := s0
      have hsm := y8 hsin
      obtain rfl : d = s1 := hsm.1.symm
      obtain rfl : n + 1 = s2 := hsm.2.1.symm
      have hs3 := hsm.2.2.1
      dsimp only at hs3 hsg
      have hs3b : s3 < 2 ^ r.entries.length := zA0 hm hnl hs3
      ·
       refine zw (zW (za (zA (zC (zB ?_)))))
       refine sq rfl rfl hn rfl (zY rfl rfl (id := 7) rfl Tryz.underlying180 rfl sz180 rfl rfl sees0) ?_
       refine zE (zA (zB ?_))
       refine stepW (zh 7 rfl rfl rfl (nb hn rfl) zr180 rfl rfl) fun b7 => ?_
       refine stepW (zl rfl rfl rfl rfl rfl rfl (id := 7) rfl sz180 rfl (Nat.le_of_ble_eq_true rfl) rfl trivial) fun _ => ?_
       refine zE ?_
       exact zAK ⟨((d, n + 1, s3), ts1, M1, b7, D0 :: dm), hd, by simp only; omega, hs3b, by simp only; rw [hts1]; split <;> simp [hts], hM1, hsg, by simp only; rw [hts1]; exact .next (s := (d, n + 1, s3)) hpt hd9 hsin⟩ ⟨.inl rfl, zJ _⟩ ⟨.inl rfl, .inl rfl, .inl rfl, .inl rfl, .inl rfl, trivial⟩ (kR hd9 hnl) (by repeat (first | exact kr _ | refine kc rfl ?_)) (by repeat (first | exact kr _ | refine kc rfl ?_)) rfl
   ·
    try simp only [decide_eq_true_eq, decide_eq_false_iff_not, Bool.and_eq_true, Bool.or_eq_true, Bool.and_eq_false_iff, Bool.or_eq_false_iff, Bool.not_eq_true', Bool.not_eq_false', beq_iff_eq, bne_iff_ne, ne_eq, beq_eq_false_iff_ne, bne_eq_false_iff_eq, Int.not_lt, Int.not_le] at hb2
    obtain rfl : d = 10 := by omega
    refine zw (zK (zK (zW (zA (zC (zB ?_))))))
    refine sq rfl rfl hn rfl (zQ rfl rfl (id := 6) rfl Tryz.underlying22 rfl rfl sees0) ?_
    refine sq rfl rfl hn rfl (zF rfl rfl) ?_
    refine sq rfl rfl hn rfl (zF rfl rfl) ?_
    refine zE (zA (zO ?_))
    refine kF (g_freezeV (t := 2) (sz := 1) (n := r.entries.length) (es := ts.map intE) 23 rfl rfl (allD_ints ts) (by simp [hts]) (by rw [← hts]; exact zAd ts) (Nat.le_refl _) (by simp only [maxLen]; omega)) ?_
    exact ret_M (.inl rfl) ⟨(ts, 0), .inr (.inr ⟨hc0, hg0, rfl, hts, n, m, hpt⟩)⟩ (.inr rfl) (yj rfl (.tmp rfl) (.tmp rfl)) trivial rfl
end Go.Proofs.YtaokpncjemkhcaaGreat
namespace Go.Proofs.YtaokpncjemkhcaaGreat
set_option linter.all false
theorem zCY {a b : List Int} (h : a.length = b.length) (k : ∀ j, j < a.length → a.getD j 0 = b.getD j 0) : a = b := by
  apply List.ext_getElem h
  intro i h1 h2
  have := k i h1
  simpa [List.getD_eq_getElem?_getD, h1, h2] using this
theorem zA4 (l : List Int) (i j : Nat) (x : Int) : (l.set i x).getD j 0 = if i = j ∧ j < l.length then x else l.getD j 0 := by
  simp only [List.getD_eq_getElem?_getD, List.getElem?_set]
  by_cases h : i = j
  · subst h
    by_cases hl : i < l.length <;> simp [hl]
  · simp [h]
theorem zBU (c : List Int) (h x : Int) (j : Nat) : (bump c h x).getD j 0 = c.getD j 0 + if h.toNat = j ∧ j < c.length then x else 0 := by
  unfold bump
  rw [zA4]
  split
  · rename_i hh; rw [hh.1]
  · omega
theorem zC4 (c : List Int) (a x b y : Int) : bump (bump c a x) b y = bump (bump c b y) a x := by
  apply zCY (by simp [kC])
  intro j hj
  simp only [zBU, kC]
  omega
theorem zAD {d : Nat} {s : Int} : ∀ {k : Nat} {es : List Ent5} {c : List Int} {h x : Int}, comeF d s k es (bump c h x) = bump (comeF d s k es c) h x
  | _, [], _, _, _ => rfl
  | k, e :: es, c, h, x => by
    simp only [comeF]
    cases d.testBit k && (e.sheet == s)
    · simp only [cond_false]; exact zAD
    · simp only [cond_true]
      rw [zC4 c h x, zC4 _ h x, zAD]
theorem yb (d j i : Nat) : (d ||| 2 ^ j).testBit i = (d.testBit i || decide (j = i)) := by
  rw [Nat.testBit_or, Nat.testBit_two_pow]
theorem zBk {d j : Nat} {s : Int} : ∀ {k : Nat} {es : List Ent5} {c : List Int}, j < k → comeF (d ||| 2 ^ j) s k es c = comeF d s k es c
  | _, [], _, _ => rfl
  | k, e :: es, c, h => by
    simp only [comeF, yb]
    rw [show decide (j = k) = false by simp; omega, Bool.or_false]
    exact zBk (by omega)
theorem zDc {d j : Nat} {s : Int} {e : Ent5} (hb : d.testBit j = false) : ∀ {k : Nat} {es : List Ent5} {c : List Int}, k ≤ j → es[j - k]? = some e →
    comeF (d ||| 2 ^ j) s k es c = bif e.sheet == s then bump (bump (comeF d s k es c) e.frm (-1)) e.to 1 else comeF d s k es c
  | _, [], _, _, h => by simp at h
  | k, x :: es, c, hk, he => by
    by_cases hkj : k = j
    · subst hkj
      simp only [Nat.sub_self, List.getElem?_cons_zero, Option.some.injEq] at he
      subst he
      simp only [comeF, yb, hb, decide_true, Bool.or_true, Bool.true_and, Bool.false_and, cond_false]
      rw [zBk (by omega)]
      cases x.sheet == s
      · rfl
      · simp only [cond_true]; rw [zAD, zAD]
    · simp only [comeF, yb]
      rw [show decide (j = k) = false by simp; omega, Bool.or_false]
      refine zDc hb (by omega) ?_
      rw [show j - k = (j - (k + 1)) + 1 by omega] at he
      simpa using he
theorem zB9 {s : Int} : ∀ {k : Nat} {es : List Ent5} {c : List Int}, comeF 0 s k es c = c
  | _, [], _ => rfl
  | k, e :: es, c => by simp only [comeF, Nat.zero_testBit, Bool.false_and, cond_false]; exact zB9
def openD (a b : Int) (e : Ent5) : Int := bif (e.kind == 1) && (e.frm == a) && (e.to == b) then 1 else bif (e.kind == 2) && (e.frm == b) && (e.to == a) then -1 else 0
theorem y5 {d : Nat} {a b : Int} {k : Nat} {e : Ent5} {es : List Ent5} {n : Int} : openF d a b k (e :: es) n = openF d a b (k + 1) es (n + bif d.testBit k then openD a b e else 0) := by
  simp only [openF, openD]
  cases d.testBit k <;> cases ((e.kind == 1) && (e.frm == a) && (e.to == b)) <;> cases ((e.kind == 2) && (e.frm == b) && (e.to == a)) <;> simp <;> rfl
theorem zC0 {d : Nat} {a b : Int} : ∀ {k : Nat} {es : List Ent5} {n x : Int}, openF d a b k es (n + x) = openF d a b k es n + x
  | _, [], _, _ => rfl
  | k, e :: es, n, x => by
    rw [y5, y5, Int.add_right_comm, zC0]
theorem zBr {d j : Nat} {a b : Int} : ∀ {k : Nat} {es : List Ent5} {n : Int}, j < k → openF (d ||| 2 ^ j) a b k es n = openF d a b k es n
  | _, [], _, _ => rfl
  | k, e :: es, n, h => by
    rw [y5, y5, yb, show decide (j = k) = false by simp; omega, Bool.or_false]
    exact zBr (by omega)
theorem zDk {d j : Nat} {a b : Int} {e : Ent5} (hb : d.testBit j = false) : ∀ {k : Nat} {es : List Ent5} {n : Int}, k ≤ j → es[j - k]? = some e → openF (d ||| 2 ^ j) a b k es n = openF d a b k es n + openD a b e
  | _, [], _, _, h => by simp at h
  | k, x :: es, n, hk, he => by
    rw [y5, y5, yb]
    by_cases hkj : k = j
    · subst hkj
      simp only [Nat.sub_self, List.getElem?_cons_zero, Option.some.injEq] at he
      subst he
      simp only [hb, decide_true, Bool.or_true, cond_true, cond_false]
      rw [zBr (by omega), zC0, Int.add_zero]
    · rw [show decide (j = k) = false by simp; omega, Bool.or_false]
      refine zDk hb (by omega) ?_
      rw [show j - k = (j - (k + 1)) + 1 by omega] at he
      simpa using he
theorem zCR {a b : Int} : ∀ {k : Nat} {es : List Ent5} {n : Int}, openF 0 a b k es n = n
  | _, [], _ => rfl
  | k, e :: es, n => by rw [y5, Nat.zero_testBit, cond_false, Int.add_zero]; exact zCR
theorem zBE (l : List Int) (k j : Nat) (x : Int) : (upd l k x).getD j 0 = l.getD j 0 + if k = j ∧ j < l.length then x else 0 := by
  unfold upd
  rw [zA4]
  split
  · rename_i hh; rw [hh.1]
  · omega
theorem getD_come0 {h : Int} (j : Nat) (hj : j < 4) : (come0 h).getD j 0 = if h.toNat = j then 1 else 0 := by
  unfold come0
  rw [zBU]
  have : ([0, 0, 0, 0] : List Int).getD j 0 = 0 := by rcases j with _ | _ | _ | _ | j <;> rfl
  rw [this]
  by_cases e : h.toNat = j <;> simp [e, hj]
theorem come0_move {f t : Int} : bump (bump (come0 f) f (-1)) t 1 = come0 t := by
  apply zCY (by simp [kC, zAg])
  intro j hj
  simp only [kC, zAg] at hj
  simp only [zBU, kC, zAg, getD_come0 j hj, hj, and_true]
  omega
theorem come0_idx {h : Int} (h0 : 0 ≤ h) (h4 : h < 4) : idxOf (fun x => (1 : Int) == x) (come0 h) = h := by
  obtain ⟨k, rfl⟩ : ∃ k : Nat, h = k := ⟨h.toNat, by omega⟩
  have hk : k < 4 := by omega
  rcases k with _ | _ | _ | _ | k
  · rfl
  · rfl
  · rfl
  · rfl
  · omega
/-- The set of what has happened, and the state of the reference. -/
structure OkS (r : Reg) (m : Nat) (st : RSt) : Prop where
  l1 : st.1.length = 4
  l2 : st.2.length = 16
  pl : ∀ s : Nat, s < r.start.length → comeF m (s : Int) 0 r.entries (come0 (r.start.getD s 0)) = come0 (st.1.getD s 0) ∧ 0 ≤ st.1.getD s 0 ∧ st.1.getD s 0 < r.houses
  rest : ∀ s : Nat, r.start.length ≤ s → st.1.getD s 0 = 0
  op : ∀ a b : Nat, a < 4 → b < 4 → openN r m (a : Int) (b : Int) = st.2.getD (a * 4 + b) 0
  nn : ∀ j, 0 ≤ st.2.getD j 0
theorem getD_ge {l : List Int} {j : Nat} (h : l.length ≤ j) : l.getD j 0 = 0 := by simp [List.getD_eq_getElem?_getD, List.getElem?_eq_none h]
theorem OkS.places {r : Reg} {m : Nat} {st : RSt} (v : Valid r) (h : OkS r m st) : placesA r m = st.1 := by
  apply zCY (by rw [kE, h.l1])
  intro j hj
  rw [kE] at hj
  have : (placesA r m).getD j 0 = placeN r m r.start.length j := zD4 (zBn hj)
  rw [this]
  unfold placeN
  split
  · rename_i hlt
    obtain ⟨k1, k2, k3⟩ := h.pl j hlt
    unfold placeOf
    rw [k1, come0_idx k2 (by have := v.h4; omega)]
  · rename_i hge
    rw [getD_ge (by omega), h.rest j (by omega)]
theorem OkS.start (r : Reg) (v : Valid r) : OkS r 0 (startA r r.start.length, List.replicate 16 0) := by
  have h4 := v.s4
  have hlen := startA_len (r := r) (Nat.le_refl _) h4
  have hget : ∀ s, s < r.start.length → (startA r r.start.length).getD s 0 = r.start.getD s 0 := fun s hs => by
    simp only [startA, List.getD_eq_getElem?_getD, List.take_length]
    rw [List.getElem?_append_left hs]
  refine ⟨hlen, by simp, fun s hs => ?_, fun s hs => ?_, fun a b ha hb => ?_, fun j => ?_⟩
  · rw [zB9, hget s hs]
    have := v.st (r.start.getD s 0) (zCC hs)
    have := v.h4
    exact ⟨rfl, by omega, by omega⟩
  · simp only [startA, List.getD_eq_getElem?_getD, List.take_length]
    rw [List.getElem?_append_right hs, List.getElem?_replicate]
    split <;> rfl
  · unfold openN
    rw [zCR, List.getD_eq_getElem?_getD, List.getElem?_replicate]
    split <;> rfl
  · simp only [List.getD_eq_getElem?_getD, List.getElem?_replicate]
    split <;> simp
theorem OkS.can {r : Reg} {m k : Nat} {st : RSt} {e : Ent5} (v : Valid r) (h : OkS r m st) (he : r.entries[k]? = some e) (hb : m.testBit k = false) : canE r k e m = (refStep e st).isSome := by
  have hen := v.en e (List.mem_of_getElem? he)
  have h4 := v.h4
  have hop := h.op e.to.toNat e.frm.toNat (by omega) (by omega)
  rw [show ((e.to.toNat : Nat) : Int) = e.to by omega, show ((e.frm.toNat : Nat) : Int) = e.frm by omega] at hop
  unfold canE refStep
  rw [h.places v, hb, hop, Bool.eq_iff_iff]
  simp only [Bool.not_false, Bool.true_and, Bool.and_eq_true, beq_iff_eq, Bool.or_eq_true, bne_iff_ne, ne_eq, decide_eq_true_eq]
  cases hc : ((st.1.getD e.sheet.toNat 0 != e.frm) || ((e.kind == 2) && decide (st.2.getD (e.to.toNat * 4 + e.frm.toNat) 0 < 1)))
  · simp only [cond_false, Option.isSome_some]
    simp at hc
    simp only [iff_true]
    refine ⟨hc.1, ?_⟩
    by_cases hk : e.kind = 2
    · right; have := hc.2 hk; simp only [List.getD_eq_getElem?_getD]; omega
    · exact .inl hk
  · simp only [cond_true, Option.isSome_none]
    simp at hc
    simp only [List.getD_eq_getElem?_getD]
    constructor
    · rintro ⟨h1, h2⟩
      rcases hc with hc | hc
      · exact absurd h1 hc
      · omega
    · intro h; cases h
theorem OkS.step {r : Reg} {m k : Nat} {st st' : RSt} {e : Ent5} (v : Valid r) (h : OkS r m st) (he : r.entries[k]? = some e) (hb : m.testBit k = false) (hs : refStep e st = some st') : OkS r (m ||| 2 ^ k) st' := by
  have hen := v.en e (List.mem_of_getElem? he)
  have h4 := v.h4; have hs4 := v.s4
  unfold refStep at hs
  cases hc : ((st.1.getD e.sheet.toNat 0 != e.frm) || ((e.kind == 2) && decide (st.2.getD (e.to.toNat * 4 + e.frm.toNat) 0 < 1))) with
  | true => rw [hc] at hs; cases hs
  | false =>
    rw [hc] at hs
    simp only [cond_false, Option.some.injEq] at hs
    have hat : st.1.getD e.sheet.toNat 0 = e.frm := by
      simp only [Bool.or_eq_false_iff, bne_eq_false_iff_eq] at hc
      exact hc.1
    subst hs
    refine ⟨by simp [h.l1], ?_, fun s hlt => ?_, fun s hge => ?_, fun a b ha hb2 => ?_, fun j => ?_⟩
    · have := h.l2
      cases e.kind == 2 <;> cases e.kind == 1 <;> simp [upd_len, this]
    · obtain ⟨k1, k2, k3⟩ := h.pl s hlt
      simp only [zA4]
      rw [zDc hb (Nat.zero_le _) (by simpa using he), k1]
      by_cases hes : e.sheet = (s : Int)
      · have e1 : e.sheet.toNat = s := by omega
        rw [show (e.sheet == (s : Int)) = true by simpa using hes]
        simp only [cond_true]
        rw [if_pos ⟨e1, by rw [h.l1]; omega⟩, ← e1, hat, come0_move]
        exact ⟨rfl, by omega, by omega⟩
      · rw [show (e.sheet == (s : Int)) = false by simpa using hes]
        simp only [cond_false]
        rw [if_neg (by omega)]
        exact ⟨rfl, k2, k3⟩
    · simp only [zA4]
      rw [if_neg (by omega)]
      exact h.rest s hge
    · have hop := h.op a b ha hb2
      unfold openN at hop ⊢
      rw [zDk hb (Nat.zero_le _) (by simpa using he), hop]
      have hl2 := h.l2
      have hfa : (e.frm == (a : Int)) = decide (e.frm.toNat = a) := by rw [Bool.eq_iff_iff]; simp; omega
      have htb : (e.to == (b : Int)) = decide (e.to.toNat = b) := by rw [Bool.eq_iff_iff]; simp; omega
      have hfb : (e.frm == (b : Int)) = decide (e.frm.toNat = b) := by rw [Bool.eq_iff_iff]; simp; omega
      have hta : (e.to == (a : Int)) = decide (e.to.toNat = a) := by rw [Bool.eq_iff_iff]; simp; omega
      simp only [openD, hfa, htb, hfb, hta]
      by_cases hk1 : e.kind = 1
      · have hk2 : (e.kind == 2) = false := by simp [hk1]
        have hk1' : (e.kind == 1) = true := by simp [hk1]
        simp only [hk1', hk2, cond_true, cond_false, Bool.true_and, Bool.false_and, zBE]
        congr 1
        by_cases hh : e.frm.toNat = a ∧ e.to.toNat = b
        · rw [if_pos (by omega)]; simp [hh.1, hh.2]
        · rw [if_neg (by omega)]
          have : (decide (e.frm.toNat = a) && decide (e.to.toNat = b)) = false := by simp; omega
          rw [this]; rfl
      · have hk1' : (e.kind == 1) = false := by simp [hk1]
        by_cases hk2 : e.kind = 2
        · have hk2' : (e.kind == 2) = true := by simp [hk2]
          simp only [hk1', hk2', cond_true, cond_false, Bool.true_and, Bool.false_and, zBE]
          congr 1
          by_cases hh : e.frm.toNat = b ∧ e.to.toNat = a
          · rw [if_pos (by omega)]; simp [hh.1, hh.2]
          · rw [if_neg (by omega)]
            have : (decide (e.frm.toNat = b) && decide (e.to.toNat = a)) = false := by simp; omega
            rw [this]; rfl
        · have hk2' : (e.kind == 2) = false := by simp [hk2]
          simp [hk1', hk2']
    · have hnn := h.nn
      by_cases hk2 : e.kind = 2
      · have hk1 : (e.kind == 1) = false := by simp [hk2]
        have hk2' : (e.kind == 2) = true := by simp [hk2]
        simp only [hk1, hk2', cond_true, cond_false, zBE]
        have := hnn j
        split
        · rename_i hj
          rw [hk2', Bool.true_and, Bool.or_eq_false_iff, decide_eq_false_iff_not, hj.1] at hc
          omega
        · omega
      · have hk2' : (e.kind == 2) = false := by simp [hk2]
        simp only [hk2', cond_false]
        cases e.kind == 1
        · exact hnn j
        · simp only [cond_true, zBE]
          have := hnn j
          split <;> omega
theorem zC7 {r : Reg} (v : Valid r) {day : Int} : ∀ (ts : List Int) (k : Nat) (es : List Ent5) (m : Nat) (st : RSt), r.entries.drop k = es → ts.length = es.length → OkS r m st → (∀ i : Nat, ts[i]? = some day → m.testBit (k + i) = false) →
    (dayF r day k ts m = none ∧ refDayF day es ts st = none) ∨ ∃ m' st', dayF r day k ts m = some m' ∧ refDayF day es ts st = some st' ∧ OkS r m' st' ∧ ∀ i, m'.testBit i = true ↔ (m.testBit i = true ∨ (k ≤ i ∧ ts[i - k]? = some day))
  | [], k, es, m, st, _, hl, ho, _ => by
    obtain rfl : es = [] := List.eq_nil_of_length_eq_zero (by simpa using hl.symm)
    exact .inr ⟨m, st, rfl, rfl, ho, fun i => by simp⟩
  | t :: ts, k, [], m, st, _, hl, ho, _ => by simp at hl
  | t :: ts, k, e :: es, m, st, hd, hl, ho, hf => by
    have he : r.entries[k]? = some e := by
      have h1 : (r.entries.drop k)[0]? = some e := by rw [hd]; rfl
      simpa using h1
    have hd' : r.entries.drop (k + 1) = es := by
      have h1 : (r.entries.drop k).drop 1 = es := by rw [hd]; rfl
      rw [List.drop_drop] at h1
      exact h1
    have hl' : ts.length = es.length := by simpa using hl
    simp only [dayF, refDayF]
    by_cases ht : t = day
    · subst ht
      have hfree := hf 0 rfl
      simp only [bne_self_eq_false, cond_false]
      have hcb : canB r k m = (refStep e st).isSome := by
        have : canB r k m = canE r k e m := by unfold canB; rw [he]
        rw [this]
        exact ho.can v he hfree
      rw [hcb]
      cases hs : refStep e st with
      | none => left; simp
      | some st' =>
        simp only [Option.isSome_some, Bool.not_true, cond_false]
        have hk := ho.step v he hfree hs
        rcases zC7 v ts (k + 1) es (m ||| 2 ^ k) st' hd' hl' hk (fun i hi => by
          rw [yb]
          have := hf (i + 1) (by simpa using hi)
          rw [show k + 1 + i = k + (i + 1) by omega, this]
          simp) with h | ⟨m', st'', h1, h2, h3, h4⟩
        · exact .inl h
        · refine .inr ⟨m', st'', h1, h2, h3, fun i => ?_⟩
          rw [h4, yb]
          simp only [Bool.or_eq_true, decide_eq_true_eq]
          by_cases e1 : k = i
          · subst e1; simp
          · by_cases e2 : k + 1 ≤ i
            · rw [show i - k = (i - (k + 1)) + 1 by omega]
              have e3 : k ≤ i := by omega
              simp [e1, e2, e3]
            · have e3 : ¬ k ≤ i := by omega
              simp [e1, e2, e3]
    · have hb : (t != day) = true := by simpa using ht
      simp only [hb, cond_true]
      rcases zC7 v ts (k + 1) es m st hd' hl' ho (fun i hi => by
          rw [show k + 1 + i = k + (i + 1) by omega]
          exact hf (i + 1) (by simpa using hi)) with h | ⟨m', st'', h1, h2, h3, h4⟩
      · exact .inl h
      · refine .inr ⟨m', st'', h1, h2, h3, fun i => ?_⟩
        rw [h4]
        by_cases e1 : k = i
        · subst e1
          have e3 : ¬ k + 1 ≤ k := by omega
          simp [ht, e3]
        · by_cases e2 : k + 1 ≤ i
          · rw [show i - k = (i - (k + 1)) + 1 by omega]
            have e3 : k ≤ i := by omega
            simp [e2, e3]
          · have e3 : ¬ k ≤ i := by omega
            simp [e2, e3]
theorem kU {o l : List Int} {k n j : Nat} (hl : l.length = n) (hk : k + n ≤ o.length) : (splice o k n l).getD j 0 = if k ≤ j ∧ j < k + n then l.getD (j - k) 0 else o.getD j 0 := by
  unfold splice
  simp only [List.getD_eq_getElem?_getD]
  rw [← apply_ite (fun q : Option Int => q.getD 0)]
  congr 1
  rw [List.append_assoc, List.getElem?_append]
  have h1 : (o.take k).length = k := by rw [List.length_take]; omega
  rw [h1]
  by_cases h : j < k
  · rw [if_pos h, if_neg (by omega), List.getElem?_take, if_pos h]
  · rw [if_neg h, List.getElem?_append, hl]
    by_cases h2 : j - k < n
    · rw [if_pos h2, if_pos (by omega)]
    · rw [if_neg h2, if_neg (by omega), List.getElem?_drop]
      congr 1
      omega
theorem zA8 {out : List Int} {day : Nat} {st : RSt} (hd : day < 10) (ho : out.length = 200) (h1 : st.1.length = 4) (h2 : st.2.length = 16) {j s : Nat} (hj : j < 10) (hs : s < 4) : houseAt (putDay out day st) j s = if j = day then st.1.getD s 0 else houseAt out j s := by
  unfold houseAt putDay
  rw [kU h2 (by rw [kN (by omega) h1]; omega), if_neg (by omega), kU h1 (by omega)]
  by_cases e : j = day
  · subst e
    rw [if_pos (by omega), if_pos rfl]
    congr 1
    omega
  · rw [if_neg (by omega), if_neg e]
theorem zBs {out : List Int} {day : Nat} {st : RSt} (hd : day < 10) (ho : out.length = 200) (h1 : st.1.length = 4) (h2 : st.2.length = 16) {j a b : Nat} (hj : j < 10) (ha : a < 4) (hb : b < 4) : openAt (putDay out day st) j a b = if j = day then st.2.getD (a * 4 + b) 0 else openAt out j a b := by
  unfold openAt putDay
  rw [kU h2 (by rw [kN (by omega) h1]; omega)]
  by_cases e : j = day
  · subst e
    rw [if_pos (by omega), if_pos rfl]
    congr 1
    omega
  · rw [if_neg (by omega), if_neg e, kU h1 (by omega), if_neg (by omega)]
/-- What a list of what has happened, and a record of the days, have to do with each other. -/
def Agrees (r : Reg) (t : List Int) (o : List Int) (n : Nat) (m : Nat) : Prop :=
  (∀ s, s < 4 → houseAt o n s = (placesA r m).getD s 0) ∧ (∀ a b : Nat, a < 4 → b < 4 → openAt o n a b = openN r m (a : Int) (b : Int) ∧ 0 ≤ openAt o n a b) ∧ (∀ s, s < r.start.length → 0 ≤ (placesA r m).getD s 0 ∧ (placesA r m).getD s 0 < r.houses) ∧ ∀ i, m.testBit i = true ↔ ∃ x, t[i]? = some x ∧ x ≤ (n : Int)
theorem zCm {r : Reg} (v : Valid r) {t : List Int} (hl : t.length = r.entries.length) : ∀ (cnt n d : Nat) (out : List Int) (st : RSt), n + cnt = 10 → OkS r d st → (∀ i, d.testBit i = true ↔ ∃ x, t[i]? = some x ∧ x < (n : Int)) → out.length = 200 →
    (playF r t cnt n d = none ∧ (refPlayF r t cnt n out st).2 = false) ∨ ∃ ds, playF r t cnt n d = some ds ∧ ds.length = cnt ∧ (refPlayF r t cnt n out st).2 = true ∧
      (∀ j, j < n → (∀ s, s < 4 → houseAt (refPlayF r t cnt n out st).1 j s = houseAt out j s) ∧ ∀ a b, a < 4 → b < 4 → openAt (refPlayF r t cnt n out st).1 j a b = openAt out j a b) ∧
      ∀ j, j < cnt → Agrees r t (refPlayF r t cnt n out st).1 (n + j) (ds.getD j 0)
  | 0, n, d, out, st, hn, ho, hb, hlen => .inr ⟨[], rfl, rfl, rfl, fun j _ => ⟨fun _ _ => rfl, fun _ _ _ _ => rfl⟩, fun j hj => by omega⟩
  | cnt + 1, n, d, out, st, hn, ho, hb, hlen => by
    have hday := zC7 v (day := (n : Int)) t 0 r.entries d st rfl hl ho (fun i hi => by
      rw [Nat.zero_add]
      cases hq : d.testBit i with
      | false => rfl
      | true =>
        obtain ⟨x, h1, h2⟩ := (hb i).1 hq
        rw [hi] at h1
        cases h1
        omega)
    simp only [playF, refPlayF]
    rcases hday with ⟨h1, h2⟩ | ⟨m', st', h1, h2, h3, h4⟩
    · rw [h1, h2]
      exact .inl ⟨rfl, rfl⟩
    · rw [h1, h2]
      simp only
      have hbits : ∀ i, m'.testBit i = true ↔ ∃ x, t[i]? = some x ∧ x < ((n + 1 : Nat) : Int) := fun i => by
        rw [h4, hb]
        simp only [Nat.zero_le, true_and, Nat.sub_zero]
        constructor
        · rintro (⟨x, k1, k2⟩ | h)
          · exact ⟨x, k1, by omega⟩
          · exact ⟨_, h, by omega⟩
        · rintro ⟨x, k1, k2⟩
          by_cases e : x = (n : Int)
          · subst e; exact .inr k1
          · exact .inl ⟨x, k1, by omega⟩
      have hlen' := putDay_len (out := out) (day := n) (st := st') (by omega) hlen h3.l1 h3.l2
      rcases zCm v hl cnt (n + 1) m' (putDay out n st') st' (by omega) h3 hbits hlen' with ⟨k1, k2⟩ | ⟨ds, k1, k2, k3, k4, k5⟩
      · rw [k1]; exact .inl ⟨rfl, k2⟩
      · rw [k1]
        refine .inr ⟨m' :: ds, rfl, by simp [k2], k3, fun j hj => ⟨fun s hs => ?_, fun a b ha hb2 => ?_⟩, fun j hj => ?_⟩
        · rw [(k4 j (by omega)).1 s hs, zA8 (by omega) hlen h3.l1 h3.l2 (by omega) hs, if_neg (by omega)]
        · rw [(k4 j (by omega)).2 a b ha hb2, zBs (by omega) hlen h3.l1 h3.l2 (by omega) ha hb2, if_neg (by omega)]
        · cases j with
          | zero =>
            refine ⟨fun s hs => ?_, fun a b ha hb2 => ?_, fun s hs => ?_, fun i => ?_⟩
            · show houseAt _ n s = _
              rw [(k4 n (by omega)).1 s hs, zA8 (by omega) hlen h3.l1 h3.l2 (by omega) hs, if_pos rfl]
              show _ = (placesA r m').getD s 0
              rw [h3.places v]
            · show openAt _ n a b = _ ∧ 0 ≤ openAt _ n a b
              rw [(k4 n (by omega)).2 a b ha hb2, zBs (by omega) hlen h3.l1 h3.l2 (by omega) ha hb2, if_pos rfl]
              exact ⟨(h3.op a b ha hb2).symm, h3.nn _⟩
            · show 0 ≤ (placesA r m').getD s 0 ∧ (placesA r m').getD s 0 < r.houses
              rw [h3.places v]
              exact (h3.pl s hs).2
            · show m'.testBit i = true ↔ _
              rw [hbits]
              exact ⟨fun ⟨x, h1, h2⟩ => ⟨x, h1, by omega⟩, fun ⟨x, h1, h2⟩ => ⟨x, h1, by omega⟩⟩
          | succ j =>
            have := k5 j (by omega)
            rw [show n + 1 + j = n + (j + 1) by omega] at this
            exact this
theorem zAt : ∀ {es : List Ent5} {ts : List Int} {i : Nat} {e : Ent5}, datedF es ts = true → es[i]? = some e → ∃ x, ts[i]? = some x ∧ e.lo ≤ x ∧ x ≤ e.hi
  | [], _, _, _, _, h => by simp at h
  | e :: es, [], _, _, h, _ => by simp [datedF] at h
  | e :: es, t :: ts, 0, e', h, he => by
    simp only [List.getElem?_cons_zero, Option.some.injEq] at he
    subst he
    simp only [datedF, Bool.and_eq_true, decide_eq_true_eq] at h
    exact ⟨t, rfl, h.1.1, h.1.2⟩
  | e :: es, t :: ts, i + 1, e', h, he => by
    simp only [datedF, Bool.and_eq_true] at h
    obtain ⟨x, h1, h2⟩ := zAt (es := es) (ts := ts) (i := i) h.2 (by simpa using he)
    exact ⟨x, by simpa using h1, h2⟩
theorem zCq {r : Reg} (v : Valid r) {t : List Int} (h : datedF r.entries t = true) {i : Nat} {x : Int} (hx : t[i]? = some x) : 0 ≤ x ∧ x ≤ 9 := by
  have hlen := yn h
  have hi := (List.getElem?_eq_some_iff.1 hx).1
  obtain ⟨e, he⟩ := z2 (l := r.entries) (i := i) (by omega)
  obtain ⟨y, h1, h2, h3⟩ := zAt h he
  rw [hx] at h1
  cases h1
  have := v.en e (List.mem_of_getElem? he)
  omega
/-- The program's play and the reference's. -/
theorem play_ref {r : Reg} (v : Valid r) {t : List Int} (h : datedF r.entries t = true) :
    (playDays r t = none ∧ (refPlay r t).2 = false) ∨ ∃ ds, playDays r t = some ds ∧ ds.length = 10 ∧ (refPlay r t).2 = true ∧ ∀ n, n < 10 → Agrees r t (refPlay r t).1 n (ds.getD n 0) := by
  rcases zCm v (yn h) 10 0 0 (List.replicate 200 0) (startA r r.start.length, List.replicate 16 0) rfl (OkS.start r v) (fun i => by
    simp only [Nat.zero_testBit, Bool.false_eq_true, false_iff]
    rintro ⟨x, h1, h2⟩
    have := zCq v h h1
    omega) (List.length_replicate) with ⟨k1, k2⟩ | ⟨ds, k1, k2, k3, _, k5⟩
  · exact .inl ⟨k1, k2⟩
  · exact .inr ⟨ds, k1, k2, k3, fun n hn => by have := k5 n hn; rw [Nat.zero_add] at this; exact this⟩
end Go.Proofs.YtaokpncjemkhcaaGreat
namespace Go.Proofs.YtaokpncjemkhcaaGreat
set_option linter.all false
theorem zDu {r : Reg} {n m : Nat} (h : canB r n m = true) : m.testBit n = false := by
  unfold canB at h
  split at h
  · cases h
  · unfold canE at h
    simp only [Bool.and_eq_true, Bool.not_eq_true'] at h
    exact h.1.1
theorem zBi {r : Reg} {d n m : Nat} {s : Nat × Nat × Nat} (h : s ∈ nextL r d n m) : ∃ e, r.entries[n]? = some e ∧ ((inE e d = true ∧ canB r n m = true ∧ s = (d, n + 1, m ||| 2 ^ n)) ∨ ((m.testBit n = true ∨ (d : Int) < e.hi) ∧ s = (d, n + 1, m))) := by
  unfold nextL at h
  split at h
  · rename_i e he
    refine ⟨e, he, ?_⟩
    unfold nextE at h
    rcases List.mem_append.1 h with h | h
    · cases hc : (inE e d && canB r n m) <;> rw [hc] at h <;> simp at h
      simp only [Bool.and_eq_true] at hc
      exact .inl ⟨hc.1, hc.2, h⟩
    · cases hc : (m.testBit n || decide ((d : Int) < e.hi)) <;> rw [hc] at h <;> simp at h
      simp only [Bool.or_eq_true, decide_eq_true_eq] at hc
      exact .inr ⟨hc, h⟩
  · cases h
theorem zCT {r : Reg} {d n m : Nat} {e : Ent5} (he : r.entries[n]? = some e) (h1 : inE e d = true) (h2 : canB r n m = true) : (d, n + 1, m ||| 2 ^ n) ∈ nextL r d n m := by
  simp [nextL, he, nextE, h1, h2]
theorem zB0 {r : Reg} {d n m : Nat} {e : Ent5} (he : r.entries[n]? = some e) (h : m.testBit n = true ∨ (d : Int) < e.hi) : (d, n + 1, m) ∈ nextL r d n m := by
  have : (m.testBit n || decide ((d : Int) < e.hi)) = true := by simpa using h
  simp only [nextL, he, nextE, this, cond_true]
  simp
theorem zEe {m n : Nat} (h : m.testBit n = false) : m ||| 2 ^ n ≠ m := fun e => by
  have := congrArg (fun x => x.testBit n) e
  simp only [yb, h, decide_true, Bool.or_true] at this
  cases this
def PInv (r : Reg) (d n m : Nat) (ts : List Int) : Prop := d ≤ 10 ∧ n ≤ r.entries.length ∧ ts.length = r.entries.length ∧ m < 2 ^ r.entries.length ∧ ∀ i e, r.entries[i]? = some e →
  (m.testBit i = true → ∃ x : Nat, ts[i]? = some (x : Int) ∧ inE e x = true ∧ (x < d ∨ x = d ∧ i < n)) ∧ (m.testBit i = false → (d : Int) < e.hi ∨ ((d : Int) = e.hi ∧ n ≤ i))
def Fits (r : Reg) (t : List Int) (d n m : Nat) (ts : List Int) : Prop := ∀ i, i < r.entries.length → (m.testBit i = true → t[i]? = ts[i]?) ∧ (m.testBit i = false → ∃ x, t[i]? = some x ∧ ((d : Int) < x ∨ (x = d ∧ n ≤ i)))
inductive Way (r : Reg) (t : List Int) : Nat → Nat → Nat → Prop
  | start : Way r t 0 0 0
  | day {d m} (h : Way r t d r.entries.length m) (hd : d ≤ 9) (hs : seenN r d m = true) : Way r t (d + 1) 0 m
  | take {d n m e} (h : Way r t d n m) (hd : d ≤ 9) (he : r.entries[n]? = some e) (ht : t[n]? = some (d : Int)) (hi : inE e d = true) (hc : canB r n m = true) : Way r t d (n + 1) (m ||| 2 ^ n)
  | skip {d n m e x} (h : Way r t d n m) (hd : d ≤ 9) (he : r.entries[n]? = some e) (ht : t[n]? = some x) (hx : x ≠ (d : Int)) (hq : m.testBit n = true ∨ (d : Int) < e.hi) : Way r t d (n + 1) m
theorem zCU {r : Reg} (v : Valid r) {d n m : Nat} {ts : List Int} (h : PathTo r d n m ts) : PInv r d n m ts ∧ ∀ t : List Int, t.length = r.entries.length → Fits r t d n m ts → Way r t d n m := by
  induction h with
  | start =>
    refine ⟨⟨Nat.zero_le _, Nat.zero_le _, by simp, Nat.two_pow_pos _, fun i e he => ⟨fun hb => by simp at hb, fun _ => ?_⟩⟩, fun t _ _ => .start⟩
    have := v.en e (List.mem_of_getElem? he)
    omega
  | @day d m ts h hd hs ih =>
    obtain ⟨⟨i1, i2, i3, i4, i5⟩, ihw⟩ := ih
    refine ⟨⟨by omega, Nat.zero_le _, i3, i4, fun i e he => ⟨fun hb => ?_, fun hb => ?_⟩⟩, fun t ht hf => ?_⟩
    · obtain ⟨x, k1, k2, k3⟩ := (i5 i e he).1 hb
      exact ⟨x, k1, k2, .inl (by omega)⟩
    · have := (i5 i e he).2 hb
      have hlt := (List.getElem?_eq_some_iff.1 he).1
      omega
    · refine .day (ihw t ht fun i hi => ⟨(hf i hi).1, fun hb => ?_⟩) hd hs
      obtain ⟨x, k1, k2⟩ := (hf i hi).2 hb
      exact ⟨x, k1, .inl (by omega)⟩
  | @next d n m ts s h hd hs ih =>
    obtain ⟨⟨i1, i2, i3, i4, i5⟩, ihw⟩ := ih
    obtain ⟨e, he, hcase⟩ := zBi hs
    have hn := (List.getElem?_eq_some_iff.1 he).1
    rcases hcase with ⟨hin, hcan, rfl⟩ | ⟨hq, rfl⟩
    · have hb0 := zDu hcan
      rw [if_neg (zEe hb0)]
      dsimp only
      refine ⟨⟨i1, hn, by simpa using i3, Nat.or_lt_two_pow i4 (Nat.pow_lt_pow_right (by omega) hn), fun i e' he' => ⟨fun hb => ?_, fun hb => ?_⟩⟩, fun t ht hf => ?_⟩
      · rw [yb] at hb
        by_cases e1 : n = i
        · subst e1
          rw [he] at he'
          cases he'
          exact ⟨d, by simp [i3, hn], hin, .inr ⟨rfl, by omega⟩⟩
        · simp only [e1, decide_false, Bool.or_false] at hb
          obtain ⟨x, k1, k2, k3⟩ := (i5 i e' he').1 hb
          exact ⟨x, by rw [List.getElem?_set_ne e1]; exact k1, k2, by omega⟩
      · rw [yb] at hb
        simp only [Bool.or_eq_false_iff, decide_eq_false_iff_not] at hb
        have := (i5 i e' he').2 hb.1
        omega
      · have htn : t[n]? = some (d : Int) := by
          rw [(hf n hn).1 (by rw [yb]; simp)]
          simp [i3, hn]
        refine .take (ihw t ht fun i hi => ⟨fun hb => ?_, fun hb => ?_⟩) hd he htn hin hcan
        · have e1 : n ≠ i := fun e1 => by subst e1; rw [hb0] at hb; cases hb
          rw [(hf i hi).1 (by rw [yb, hb]; rfl), List.getElem?_set_ne e1]
        · by_cases e1 : n = i
          · subst e1; exact ⟨d, htn, .inr ⟨rfl, Nat.le_refl _⟩⟩
          · obtain ⟨x, k1, k2⟩ := (hf i hi).2 (by rw [yb, hb]; simpa using e1)
            exact ⟨x, k1, by omega⟩
    · rw [if_pos rfl]
      dsimp only
      refine ⟨⟨i1, hn, i3, i4, fun i e' he' => ⟨fun hb => ?_, fun hb => ?_⟩⟩, fun t ht hf => ?_⟩
      · obtain ⟨x, k1, k2, k3⟩ := (i5 i e' he').1 hb
        exact ⟨x, k1, k2, by omega⟩
      · by_cases e1 : n = i
        · subst e1
          rw [he] at he'
          cases he'
          exact .inl (hq.resolve_left (by rw [hb]; simp))
        · have := (i5 i e' he').2 hb
          omega
      · obtain ⟨x, hx⟩ := z2 (l := t) (i := n) (by omega)
        refine .skip (x := x) (ihw t ht fun i hi => ⟨(hf i hi).1, fun hb => ?_⟩) hd he hx (fun e1 => ?_) hq
        · obtain ⟨y, k1, k2⟩ := (hf i hi).2 hb
          exact ⟨y, k1, by omega⟩
        · subst e1
          cases hb : m.testBit n with
          | true =>
            obtain ⟨y, k1, k2, k3⟩ := (i5 n e he).1 hb
            have := (hf n hn).1 hb
            rw [hx, k1] at this
            have := Option.some.inj this
            omega
          | false =>
            obtain ⟨y, k1, k2⟩ := (hf n hn).2 hb
            rw [hx] at k1
            have := Option.some.inj k1
            omega
theorem zCM {r : Reg} {t : List Int} : ∀ {k n m0 : Nat} {ds : List Nat} {m' : Nat}, playF r t k n m0 = some ds → dayF r ((n + k : Nat) : Int) 0 t (ds.getLastD m0) = some m' → playF r t (k + 1) n m0 = some (ds ++ [m'])
  | 0, n, m0, ds, m', h, hd => by
    simp only [playF, Option.some.injEq] at h
    subst h
    simp only [List.getLastD_nil, Nat.add_zero] at hd
    simp [playF, hd]
  | k + 1, n, m0, ds, m', h, hd => by
    rw [playF] at h
    split at h
    · cases h
    · rename_i d1 h1
      split at h
      · cases h
      · rename_i ds1 h2
        cases h
        rw [List.getLastD_cons] at hd
        have := zCM (n := n + 1) h2 (by rw [show n + 1 + k = n + (k + 1) by omega]; exact hd)
        rw [playF, h1]
        simp only
        rw [this]
        rfl
theorem zBb {r : Reg} {t : List Int} : ∀ {cnt n m0 : Nat} {ds : List Nat}, playF r t cnt n m0 = some ds → ∀ j, j < cnt → ∃ x, ds[j]? = some x ∧ playF r t j n m0 = some (ds.take j) ∧ dayF r ((n + j : Nat) : Int) 0 t ((ds.take j).getLastD m0) = some x
  | 0, _, _, _, _, j, hj => by omega
  | cnt + 1, n, m0, ds, h, j, hj => by
    rw [playF] at h
    split at h
    · cases h
    · rename_i d1 h1
      split at h
      · cases h
      · rename_i ds1 h2
        cases h
        cases j with
        | zero => exact ⟨d1, rfl, rfl, h1⟩
        | succ j =>
          obtain ⟨x, k1, k2, k3⟩ := zBb h2 j (by omega)
          refine ⟨x, by simpa using k1, ?_, ?_⟩
          · rw [playF, h1]
            simp only
            rw [k2]
            rfl
          · rw [List.take_succ_cons, List.getLastD_cons, show n + (j + 1) = n + 1 + j by omega]
            exact k3
theorem zCI {r : Reg} {t : List Int} : ∀ {cnt n m0 : Nat} {ds : List Nat}, playF r t cnt n m0 = some ds → ds.length = cnt
  | 0, _, _, _, h => by simp only [playF, Option.some.injEq] at h; subst h; rfl
  | cnt + 1, n, m0, ds, h => by
    rw [playF] at h
    split at h
    · cases h
    · split at h
      · cases h
      · rename_i ds1 h2
        cases h
        simp [zCI h2]
theorem zBA {r : Reg} {m : Nat} : ∀ {n : Nat} {ds : List Nat}, seenAll r n (ds ++ [m]) = (seenAll r n ds && seenN r (n + ds.length) m)
  | n, [] => by simp [seenAll, seenN]
  | n, d :: ds => by
    simp only [List.cons_append, seenAll, zBA, List.length_cons, Bool.and_assoc]
    rw [show n + 1 + ds.length = n + (ds.length + 1) by omega]
theorem zAV {r : Reg} : ∀ {n : Nat} {ds : List Nat}, seenAll r n ds = true → ∀ {j x : Nat}, ds[j]? = some x → seenN r (n + j) x = true
  | _, [], _, _, _, h => by simp at h
  | n, d :: ds, hs, 0, x, h => by
    simp only [List.getElem?_cons_zero, Option.some.injEq] at h
    subst h
    simp only [seenAll, Bool.and_eq_true] at hs
    exact hs.1
  | n, d :: ds, hs, j + 1, x, h => by
    simp only [seenAll, Bool.and_eq_true] at hs
    have := zAV hs.2 (j := j) (x := x) (by simpa using h)
    rwa [show n + 1 + j = n + (j + 1) by omega] at this
theorem zA1 {r : Reg} {t : List Int} (hl : t.length = r.entries.length) {d n m : Nat} (h : Way r t d n m) : n ≤ r.entries.length ∧ ∃ ds, playF r t d 0 0 = some ds ∧ seenAll r 0 ds = true ∧ dayF r (d : Int) 0 t (ds.getLastD 0) = dayF r (d : Int) n (t.drop n) m := by
  induction h with
  | start => exact ⟨Nat.zero_le _, [], rfl, rfl, rfl⟩
  | @day d m h hd hs ih =>
    obtain ⟨_, ds, k1, k2, k3⟩ := ih
    have hday : dayF r (d : Int) 0 t (ds.getLastD 0) = some m := by
      rw [k3, List.drop_of_length_le (by omega)]
      rfl
    have := zCM k1 (by rw [Nat.zero_add]; exact hday)
    refine ⟨Nat.zero_le _, _, this, ?_, ?_⟩
    · rw [zBA, k2, zCI k1, Nat.zero_add, hs]
      rfl
    · rw [List.getLastD_concat]
      rfl
  | @take d n m e h hd he ht hi hc ih =>
    obtain ⟨_, ds, k1, k2, k3⟩ := ih
    refine ⟨(List.getElem?_eq_some_iff.1 he).1, ds, k1, k2, ?_⟩
    rw [k3, zAf ht]
    simp only [dayF, bne_self_eq_false, cond_false, hc, Bool.not_true]
  | @skip d n m e x h hd he ht hx hq ih =>
    obtain ⟨_, ds, k1, k2, k3⟩ := ih
    refine ⟨(List.getElem?_eq_some_iff.1 he).1, ds, k1, k2, ?_⟩
    rw [k3, zAf ht]
    have : (x != (d : Int)) = true := by simpa using hx
    simp only [dayF, this, cond_true]
/-- A truth, and what has happened at the end of each day. -/
structure Truth (r : Reg) (t : List Int) (ds : List Nat) : Prop where
  dated : datedF r.entries t = true
  play : playDays r t = some ds
  seen : seenAll r 0 ds = true
theorem zCd : ∀ {es : List Ent5} {ts : List Int}, ts.length = es.length → (∀ (i : Nat) (e : Ent5), es[i]? = some e → ∃ x, ts[i]? = some x ∧ e.lo ≤ x ∧ x ≤ e.hi) → datedF es ts = true
  | [], [], _, _ => rfl
  | [], _ :: _, h, _ => by simp at h
  | _ :: _, [], h, _ => by simp at h
  | e :: es, t :: ts, h, k => by
    obtain ⟨x, h1, h2⟩ := k 0 e rfl
    simp only [List.getElem?_cons_zero, Option.some.injEq] at h1
    subst h1
    simp only [datedF, Bool.and_eq_true, decide_eq_true_eq]
    exact ⟨h2, zCd (by simpa using h) fun i e' he => by simpa using k (i + 1) e' (by simpa using he)⟩
theorem zCu {r : Reg} (v : Valid r) {n m : Nat} {ts : List Int} (h : PInv r 10 n m ts) : ∀ i, i < r.entries.length → m.testBit i = true := fun i hi => by
  obtain ⟨e, he⟩ := z2 hi
  have := v.en e (List.mem_of_getElem? he)
  cases hb : m.testBit i with
  | true => rfl
  | false => have := (h.2.2.2.2 i e he).2 hb; omega
theorem ke {r : Reg} (v : Valid r) {n m : Nat} {ts : List Int} (h : PathTo r 10 n m ts) : ∃ ds, Truth r ts ds := by
  obtain ⟨hi, hw⟩ := zCU v h
  have hall := zCu v hi
  have hl := hi.2.2.1
  have way := hw ts hl fun i hlt => ⟨fun _ => rfl, fun hb => by rw [hall i hlt] at hb; cases hb⟩
  obtain ⟨_, ds, k1, k2, _⟩ := zA1 hl way
  refine ⟨ds, zCd hl fun i e he => ?_, k1, k2⟩
  obtain ⟨x, h1, h2, _⟩ := (hi.2.2.2.2 i e he).1 (hall i (List.getElem?_eq_some_iff.1 he).1)
  simp only [inE, Bool.and_eq_true, decide_eq_true_eq] at h2
  exact ⟨x, h1, h2⟩
theorem zBM {r : Reg} (v : Valid r) : ∀ (k d n m : Nat) (ts : List Int), muS r d n < k → PathTo r d n m ts → goesB r d n m = true → ∃ n' m' ts', PathTo r 10 n' m' ts' ∧ Fits r ts' d n m ts
  | 0, _, _, _, _, h, _, _ => by omega
  | k + 1, d, n, m, ts, hk, hp, hg => by
    have hi := (zCU v hp).1
    by_cases hd : d = 10
    · subst hd
      exact ⟨n, m, ts, hp, fun i hlt => ⟨fun _ => rfl, fun hb => by rw [zCu v hi i hlt] at hb; cases hb⟩⟩
    have hd9 : d ≤ 9 := by have := hi.1; omega
    by_cases hn : n < r.entries.length
    · rw [kq hd9 hn] at hg
      obtain ⟨s, hs, hgs⟩ := List.any_eq_true.1 hg
      have hnx := PathTo.next hp hd9 hs
      have hmu := kR (r := r) hd9 hn
      obtain ⟨e, he, hcase⟩ := zBi hs
      rcases hcase with ⟨hin, hcan, rfl⟩ | ⟨hq, rfl⟩
      · have hb0 := zDu hcan
        rw [if_neg (zEe hb0)] at hnx
        obtain ⟨n', m', ts', k1, k2⟩ := zBM v k _ _ _ _ (by dsimp only; omega) hnx hgs
        refine ⟨n', m', ts', k1, fun i hlt => ⟨fun hb => ?_, fun hb => ?_⟩⟩
        · have e1 : n ≠ i := fun e1 => by subst e1; rw [hb0] at hb; cases hb
          rw [(k2 i hlt).1 (by rw [yb, hb]; rfl), List.getElem?_set_ne e1]
        · by_cases e1 : n = i
          · subst e1
            refine ⟨d, ?_, .inr ⟨rfl, Nat.le_refl _⟩⟩
            rw [(k2 n hlt).1 (by rw [yb]; simp)]
            simp [hi.2.2.1, hn]
          · obtain ⟨x, q1, q2⟩ := (k2 i hlt).2 (by rw [yb, hb]; simpa using e1)
            dsimp only at q2
            exact ⟨x, q1, by omega⟩
      · rw [if_pos rfl] at hnx
        obtain ⟨n', m', ts', k1, k2⟩ := zBM v k _ _ _ _ (by dsimp only; omega) hnx hgs
        refine ⟨n', m', ts', k1, fun i hlt => ⟨(k2 i hlt).1, fun hb => ?_⟩⟩
        obtain ⟨x, q1, q2⟩ := (k2 i hlt).2 hb
        dsimp only at q2
        exact ⟨x, q1, by omega⟩
    · obtain rfl : n = r.entries.length := by have := hi.2.1; omega
      rw [kK hd9] at hg
      simp only [Bool.and_eq_true] at hg
      have hmu := kp (r := r) (n := r.entries.length) hd9
      obtain ⟨n', m', ts', k1, k2⟩ := zBM v k _ _ _ _ (by omega) (.day hp hd9 hg.1) hg.2
      refine ⟨n', m', ts', k1, fun i hlt => ⟨(k2 i hlt).1, fun hb => ?_⟩⟩
      obtain ⟨x, q1, q2⟩ := (k2 i hlt).2 hb
      exact ⟨x, q1, .inl (by omega)⟩
theorem way_bits {r : Reg} {t : List Int} (v : Valid r) (hd : datedF r.entries t = true) {d n m : Nat} (h : Way r t d n m) : ∀ i, i < r.entries.length → (m.testBit i = true ↔ ∃ x, t[i]? = some x ∧ (x < (d : Int) ∨ x = d ∧ i < n)) := by
  induction h with
  | start =>
    intro i hi
    simp only [Nat.zero_testBit, Bool.false_eq_true, false_iff]
    rintro ⟨x, h1, h2⟩
    have := zCq v hd h1
    omega
  | @day d m h hd9 hs ih =>
    intro i hi
    rw [ih i hi]
    exact ⟨fun ⟨x, h1, h2⟩ => ⟨x, h1, by omega⟩, fun ⟨x, h1, h2⟩ => ⟨x, h1, by omega⟩⟩
  | @take d n m e h hd9 he ht hin hc ih =>
    intro i hi
    rw [yb, Bool.or_eq_true, ih i hi, decide_eq_true_eq]
    constructor
    · rintro (⟨x, h1, h2⟩ | rfl)
      · exact ⟨x, h1, by omega⟩
      · exact ⟨_, ht, .inr ⟨rfl, by omega⟩⟩
    · rintro ⟨x, h1, h2⟩
      by_cases e1 : n = i
      · exact .inr e1
      · exact .inl ⟨x, h1, by omega⟩
  | @skip d n m e x h hd9 he ht hx hq ih =>
    intro i hi
    rw [ih i hi]
    constructor
    · rintro ⟨y, h1, h2⟩; exact ⟨y, h1, by omega⟩
    · rintro ⟨y, h1, h2⟩
      refine ⟨y, h1, ?_⟩
      by_cases e1 : n = i
      · subst e1
        rw [ht] at h1
        cases h1
        omega
      · omega
/-- The step of the way from a spot within a day. -/
theorem way_step {r : Reg} {t : List Int} {ds : List Nat} (v : Valid r) (T : Truth r t ds) {d n m : Nat} (h : Way r t d n m) (hd : d ≤ 9) (hn : n < r.entries.length) : ∃ m', (d, n + 1, m') ∈ nextL r d n m ∧ Way r t d (n + 1) m' := by
  have hl := yn T.dated
  obtain ⟨_, ds', k1, k2, k3⟩ := zA1 hl h
  obtain ⟨x, q1, q2, q3⟩ := zBb T.play d (by omega)
  rw [k1] at q2
  cases q2
  rw [Nat.zero_add, k3] at q3
  obtain ⟨e, he⟩ := z2 hn
  obtain ⟨y, y1, y2, y3⟩ := zAt T.dated he
  rw [zAf y1] at q3
  by_cases hy : y = (d : Int)
  · subst hy
    simp only [dayF, bne_self_eq_false, cond_false] at q3
    have hc : canB r n m = true := by
      cases hc : canB r n m with
      | true => rfl
      | false => rw [hc] at q3; cases q3
    have hin : inE e d = true := by simp only [inE, Bool.and_eq_true, decide_eq_true_eq]; exact ⟨y2, y3⟩
    exact ⟨_, zCT he hin hc, .take h hd he y1 hin hc⟩
  · have hq : m.testBit n = true ∨ (d : Int) < e.hi := by
      by_cases hlt : y < (d : Int)
      · exact .inl ((way_bits v T.dated h n hn).2 ⟨y, y1, .inl hlt⟩)
      · exact .inr (by omega)
    exact ⟨_, zB0 he hq, .skip h hd he y1 hy hq⟩
/-- At the end of a day. -/
theorem way_end {r : Reg} {t : List Int} {ds : List Nat} (T : Truth r t ds) {d m : Nat} (h : Way r t d r.entries.length m) (hd : d ≤ 9) : ds[d]? = some m ∧ seenN r d m = true := by
  have hl := yn T.dated
  obtain ⟨_, ds', k1, k2, k3⟩ := zA1 hl h
  obtain ⟨x, q1, q2, q3⟩ := zBb T.play d (by omega)
  rw [k1] at q2
  cases q2
  rw [Nat.zero_add, k3, List.drop_of_length_le (by omega)] at q3
  simp only [dayF, Option.some.injEq] at q3
  subst q3
  refine ⟨q1, ?_⟩
  have := zAV T.seen q1
  rwa [Nat.zero_add] at this
theorem kP {r : Reg} {t : List Int} {ds : List Nat} (v : Valid r) (T : Truth r t ds) : ∀ (k d n m : Nat), muS r d n < k → Way r t d n m → goesB r d n m = true
  | 0, _, _, _, h, _ => by omega
  | k + 1, d, n, m, hk, h => by
    by_cases hd : 9 < d
    · exact zCs hd
    have hd9 : d ≤ 9 := by omega
    have hn := (zA1 (yn T.dated) h).1
    by_cases hlt : n < r.entries.length
    · obtain ⟨m', k1, k2⟩ := way_step v T h hd9 hlt
      have := kR (r := r) hd9 hlt
      rw [kq hd9 hlt]
      exact List.any_eq_true.2 ⟨_, k1, kP v T k d (n + 1) m' (by omega) k2⟩
    · obtain rfl : n = r.entries.length := by omega
      have := kp (r := r) (n := r.entries.length) hd9
      have hs := (way_end T h hd9).2
      rw [kK hd9, hs, kP v T k (d + 1) 0 m (by omega) (.day h hd9 hs)]
      rfl
theorem way_rch {r : Reg} {t : List Int} {ds : List Nat} (v : Valid r) (T : Truth r t ds) {N : Nat} {d n m : Nat} (h : Way r t d n m) (hd : d ≤ N) : Rch r N d n m := by
  have hg := kP v T _ _ _ _ (Nat.lt_succ_self _) h
  induction h with
  | start => exact .start hg
  | @day d m h hd9 hs ih =>
    refine .step (s := (d + 1, 0, m)) (ih (by omega) (kP v T _ _ _ _ (Nat.lt_succ_self _) h)) ?_ hg
    simp only [succL]
    rw [if_neg (by omega), if_neg (by omega)]
    simp
  | @take d n m e h hd9 he ht hin hc ih =>
    refine .step (s := (d, n + 1, m ||| 2 ^ n)) (ih hd (kP v T _ _ _ _ (Nat.lt_succ_self _) h)) ?_ hg
    simp only [succL]
    rw [if_pos (List.getElem?_eq_some_iff.1 he).1]
    exact zCT he hin hc
  | @skip d n m e x h hd9 he ht hx hq ih =>
    refine .step (s := (d, n + 1, m)) (ih hd (kP v T _ _ _ _ (Nat.lt_succ_self _) h)) ?_ hg
    simp only [succL]
    rw [if_pos (List.getElem?_eq_some_iff.1 he).1]
    exact zB0 he hq
/-- A truth's way. -/
theorem way_day {r : Reg} {t : List Int} {ds : List Nat} (v : Valid r) (T : Truth r t ds) : ∀ (k d n m : Nat), r.entries.length - n = k → n ≤ r.entries.length → Way r t d n m → d ≤ 9 → ∃ m', Way r t d r.entries.length m'
  | 0, d, n, m, hk, hn, h, hd => by
    obtain rfl : n = r.entries.length := by omega
    exact ⟨m, h⟩
  | k + 1, d, n, m, hk, hn, h, hd => by
    obtain ⟨m', _, k2⟩ := way_step v T h hd (by omega)
    exact way_day v T k d (n + 1) m' (by omega) (by omega) k2 hd
theorem zD8 {r : Reg} {t : List Int} {ds : List Nat} (v : Valid r) (T : Truth r t ds) : ∀ d, d ≤ 9 → ∃ m, Way r t d r.entries.length m
  | 0, _ => way_day v T _ 0 0 0 rfl (Nat.zero_le _) .start (by omega)
  | d + 1, hd => by
    obtain ⟨m, h⟩ := zD8 v T d (by omega)
    exact way_day v T _ (d + 1) 0 m rfl (Nat.zero_le _) (.day h (by omega) (way_end T h (by omega)).2) hd
theorem zDz {r : Reg} {N d n m : Nat} (h : Rch r N d n m) : goesB r d n m = true := by
  cases h with
  | start h => exact h
  | step _ _ hg => exact hg
theorem rch_path {r : Reg} {N d n m : Nat} (hN : N ≤ 9) (h : Rch r N d n m) : ∃ ts, PathTo r d n m ts := by
  induction h with
  | start => exact ⟨_, .start⟩
  | @step d n m s h hs hg ih =>
    obtain ⟨ts, hp⟩ := ih
    have hb := h.bd hN
    unfold succL at hs
    split at hs
    · exact ⟨_, .next hp (by omega) hs⟩
    · split at hs
      · cases hs
      · rw [List.mem_singleton] at hs
        subst hs
        obtain rfl : n = r.entries.length := by omega
        have := zDz h
        rw [kK (by omega)] at this
        simp only [Bool.and_eq_true] at this
        exact ⟨_, .day hp (by omega) this.1⟩
/-- There is a truth. -/
theorem goes_truth {r : Reg} (v : Valid r) : goesB r 0 0 0 = true ↔ ∃ t ds, Truth r t ds := by
  constructor
  · intro h
    obtain ⟨n', m', ts', k1, _⟩ := zBM v _ 0 0 0 _ (Nat.lt_succ_self _) .start h
    obtain ⟨ds, T⟩ := ke v k1
    exact ⟨ts', ds, T⟩
  · rintro ⟨t, ds, T⟩
    exact kP v T _ 0 0 0 (Nat.lt_succ_self _) .start
/-- What can have happened at the end of a day. -/
theorem rch_truth {r : Reg} (v : Valid r) {N m : Nat} (hN : N ≤ 9) : Rch r N N r.entries.length m ↔ ∃ t ds, Truth r t ds ∧ ds[N]? = some m := by
  constructor
  · intro h
    obtain ⟨ts, hp⟩ := rch_path hN h
    obtain ⟨n', m', ts', k1, k2⟩ := zBM v _ _ _ _ _ (Nat.lt_succ_self _) hp (zDz h)
    obtain ⟨ds, T⟩ := ke v k1
    have way := (zCU v hp).2 ts' (yn T.dated) k2
    exact ⟨ts', ds, T, (way_end T way hN).1⟩
  · rintro ⟨t, ds, T, hm⟩
    obtain ⟨m', h⟩ := zD8 v T N hN
    have := (way_end T h hN).1
    rw [hm] at this
    cases this
    exact way_rch v T h (Nat.le_refl _)
end Go.Proofs.YtaokpncjemkhcaaGreat
namespace Go.Proofs.YtaokpncjemkhcaaGreat
set_option linter.all false
theorem zDs : ∀ {es : List Ent5} {ts : List Int}, datedF es ts = true → ∃ n, n < manyN es ∧ nthL es n = ts
  | [], [], _ => ⟨0, by simp [manyN], rfl⟩
  | [], _ :: _, h => by simp [datedF] at h
  | _ :: _, [], h => by simp [datedF] at h
  | e :: es, t :: ts, h => by
    simp only [datedF, Bool.and_eq_true, decide_eq_true_eq] at h
    obtain ⟨n, h1, h2⟩ := zDs h.2
    have hsp : ((span e : Nat) : Int) = e.hi - e.lo + 1 := by unfold span; omega
    have hk : (t - e.lo).toNat < span e := by omega
    have hpos : 0 < span e := by omega
    refine ⟨(t - e.lo).toNat + span e * n, ?_, ?_⟩
    · have : span e * (n + 1) ≤ span e * manyN es := Nat.mul_le_mul_left _ h1
      rw [Nat.mul_add, Nat.mul_one] at this
      simp only [manyN]
      omega
    · simp only [nthL]
      rw [Nat.add_mul_mod_self_left, Nat.mod_eq_of_lt hk, Nat.add_mul_div_left _ _ hpos, Nat.div_eq_of_lt hk, Nat.zero_add, h2]
      congr 1
      omega
theorem truth_iff {r : Reg} (v : Valid r) {t : List Int} : isTruthB r t = true ↔ ∃ ds, Truth r t ds := by
  unfold isTruthB
  constructor
  · intro h
    simp only [Bool.and_eq_true] at h
    obtain ⟨hd, hp, hs⟩ := h
    rcases play_ref v hd with ⟨_, k2⟩ | ⟨ds, k1, k2, k3, k4⟩
    · rw [k2] at hp; cases hp
    · refine ⟨ds, hd, k1, ?_⟩
      have key : ∀ (n : Nat) (es : List Nat), es = ds.drop n → seenAll r n es = true := by
        intro n es
        induction es generalizing n with
        | nil => intro _; rfl
        | cons d es ih =>
          intro he
          have hdn : ds[n]? = some d := by
            have : (ds.drop n)[0]? = some d := by rw [← he]; rfl
            simpa using this
          have hlt := (List.getElem?_eq_some_iff.1 hdn).1
          have htl : es = ds.drop (n + 1) := by
            have : (ds.drop n).drop 1 = es := by rw [← he]; rfl
            rw [List.drop_drop] at this
            exact this.symm
          simp only [seenAll, ih (n + 1) htl, Bool.and_true, List.all_eq_true]
          intro s hsm
          have hsi := v.si s hsm
          have hs4 := v.s4
          have h1 := List.all_eq_true.1 hs s hsm
          simp only [sightOK, beq_iff_eq] at h1
          simp only [seenB, Bool.or_eq_true, bne_iff_ne, ne_eq, beq_iff_eq]
          by_cases hday : s.day = (n : Int)
          · right
            have h2 := (k4 n (by omega)).1 s.sheet.toNat (by omega)
            rw [show s.day.toNat = n by omega, h2] at h1
            rw [show ds.getD n 0 = d by simp [List.getD_eq_getElem?_getD, hdn]] at h1
            exact h1
          · exact .inl hday
      exact key 0 ds rfl
  · rintro ⟨ds, T⟩
    rcases play_ref v T.dated with ⟨k1, _⟩ | ⟨ds', k1, k2, k3, k4⟩
    · rw [T.play] at k1; cases k1
    · rw [T.play] at k1
      cases k1
      simp only [Bool.and_eq_true]
      refine ⟨T.dated, k3, List.all_eq_true.2 fun s hsm => ?_⟩
      have hsi := v.si s hsm
      have hs4 := v.s4
      have hlt : s.day.toNat < 10 := by omega
      have hg : ds[s.day.toNat]? = some (ds.getD s.day.toNat 0) := by
        rw [List.getD_eq_getElem?_getD, List.getElem?_eq_getElem (by omega)]; rfl
      have h1 := zAV T.seen hg
      rw [Nat.zero_add] at h1
      have h2 := List.all_eq_true.1 h1 s hsm
      simp only [seenB, Bool.or_eq_true, bne_iff_ne, ne_eq, beq_iff_eq] at h2
      simp only [sightOK, beq_iff_eq]
      rw [(k4 _ hlt).1 s.sheet.toNat (by omega)]
      exact h2.resolve_left (by omega)
theorem km {r : Reg} (v : Valid r) {t : List Int} : t ∈ truths r ↔ ∃ ds, Truth r t ds := by
  rw [← truth_iff v]
  unfold truths truthsF
  rw [List.mem_filter]
  constructor
  · exact fun h => h.2
  · intro h
    refine ⟨?_, h⟩
    unfold isTruthB at h
    simp only [Bool.and_eq_true] at h
    obtain ⟨n, h1, h2⟩ := zDs h.1
    exact List.mem_map.2 ⟨n, List.mem_range.2 h1, h2⟩
/-- What has happened at the end of a day, and the reference's record of it. -/
def Pair (r : Reg) (N : Nat) (m : Nat) (o : List Int) : Prop :=
  (∀ s, s < 4 → houseAt o N s = (placesA r m).getD s 0) ∧ (∀ a b : Nat, a < 4 → b < 4 → openAt o N a b = openN r m (a : Int) (b : Int) ∧ 0 ≤ openAt o N a b) ∧ (∀ s, s < r.start.length → 0 ≤ (placesA r m).getD s 0 ∧ (placesA r m).getD s 0 < r.houses)
theorem k9 {r : Reg} (v : Valid r) {t : List Int} {ds : List Nat} (T : Truth r t ds) {N : Nat} (hN : N ≤ 9) : ∃ m, ds[N]? = some m ∧ Pair r N m (daysOf r t) := by
  rcases play_ref v T.dated with ⟨k1, _⟩ | ⟨ds', k1, k2, k3, k4⟩
  · rw [T.play] at k1; cases k1
  · rw [T.play] at k1
    cases k1
    refine ⟨ds.getD N 0, by rw [List.getD_eq_getElem?_getD, List.getElem?_eq_getElem (by omega)]; rfl, ?_⟩
    obtain ⟨h1, h2, h3, _⟩ := k4 N (by omega)
    exact ⟨h1, h2, h3⟩
/-- The evenings and all truths. -/
theorem ev_pairs {r : Reg} (v : Valid r) {N : Nat} {out : List Nat} (hN : N ≤ 9) (h : EvOK r N out) : (∀ m ∈ out, ∃ o ∈ allDays r, Pair r N m o) ∧ (∀ o ∈ allDays r, ∃ m ∈ out, Pair r N m o) := by
  constructor
  · intro m hm
    obtain ⟨t, ds, T, hd⟩ := (rch_truth v hN).1 ((h.1 m).1 hm)
    obtain ⟨m', h1, h2⟩ := k9 v T hN
    rw [hd] at h1
    cases h1
    exact ⟨_, List.mem_map.2 ⟨t, (km v).2 ⟨ds, T⟩, rfl⟩, h2⟩
  · intro o ho
    obtain ⟨t, ht, rfl⟩ := List.mem_map.1 ho
    obtain ⟨ds, T⟩ := (km v).1 ht
    obtain ⟨m, h1, h2⟩ := k9 v T hN
    exact ⟨m, (h.1 m).2 ((rch_truth v hN).2 ⟨t, ds, T, h1⟩), h2⟩
theorem zEX {r : Reg} (v : Valid r) {N : Nat} {out : List Nat} (hN : N ≤ 9) (h : EvOK r N out) : out = [] ↔ allDays r = [] := by
  obtain ⟨h1, h2⟩ := ev_pairs v hN h
  constructor
  · rintro rfl
    cases hq : allDays r with
    | nil => rfl
    | cons o l => obtain ⟨m, hm, _⟩ := h2 o (by rw [hq]; exact List.mem_cons_self); cases hm
  · intro e
    cases out with
    | nil => rfl
    | cons m l => obtain ⟨o, ho, _⟩ := h1 m List.mem_cons_self; rw [e] at ho; cases ho
theorem zCg : ∀ {a b : List Int}, a.Pairwise (· < ·) → b.Pairwise (· < ·) → (∀ x, x ∈ a ↔ x ∈ b) → a = b
  | [], [], _, _, _ => rfl
  | [], y :: b, _, _, h => by have := (h y).2 List.mem_cons_self; cases this
  | x :: a, [], _, _, h => by have := (h x).1 List.mem_cons_self; cases this
  | x :: a, y :: b, ha, hb, h => by
    rw [List.pairwise_cons] at ha hb
    have hxy : x = y := by
      rcases List.mem_cons.1 ((h x).1 List.mem_cons_self) with e | e
      · exact e
      · rcases List.mem_cons.1 ((h y).2 List.mem_cons_self) with f | f
        · exact f.symm
        · have := hb.1 x e; have := ha.1 y f; omega
    subst hxy
    congr 1
    refine zCg ha.2 hb.2 fun z => ⟨fun hz => ?_, fun hz => ?_⟩
    · rcases List.mem_cons.1 ((h z).1 (List.mem_cons_of_mem _ hz)) with e | e
      · have := ha.1 z hz; omega
      · exact e
    · rcases List.mem_cons.1 ((h z).2 (List.mem_cons_of_mem _ hz)) with e | e
      · have := hb.1 z hz; omega
      · exact e
theorem compUp {d : Array Int} (hs : ∀ i j, i ≤ j → j < d.size → d[i]! ≤ d[j]!) : ∀ m, m ≤ d.size → (Lib.compactUpTo d m).Pairwise (· < ·) ∧ (∀ x, x ∈ Lib.compactUpTo d m ↔ ∃ j, j < m ∧ d[j]! = x)
  | 0, _ => by simp [Lib.compactUpTo]
  | m + 1, hm => by
    obtain ⟨h1, h2⟩ := compUp hs m (by omega)
    have hsucc : Lib.compactUpTo d (m + 1) = Lib.compactUpTo d m ++ (if Lib.keeps d m then [d[m]!] else []) := by
      unfold Lib.compactUpTo
      rw [List.range_succ, List.filter_append, List.map_append]
      congr 1
      by_cases hk : Lib.keeps d m = true <;> simp [hk]
    rw [hsucc]
    by_cases hk : Lib.keeps d m = true
    · rw [if_pos hk]
      constructor
      · rw [List.pairwise_append]
        refine ⟨h1, by simp, fun a ha b hb => ?_⟩
        rw [List.mem_singleton] at hb
        subst hb
        obtain ⟨j, hj, rfl⟩ := (h2 a).1 ha
        have k1 := hs j (m - 1) (by omega) (by omega)
        have k2 := hs (m - 1) m (by omega) (by omega)
        have : d[m - 1]! ≠ d[m]! := by
          intro e
          unfold Lib.keeps at hk
          simp at hk
          rcases hk with hk | hk
          · omega
          · exact hk (by simpa using e.symm)
        omega
      · intro x
        rw [List.mem_append, h2, List.mem_singleton]
        constructor
        · rintro (⟨j, hj, e⟩ | rfl)
          · exact ⟨j, by omega, e⟩
          · exact ⟨m, by omega, rfl⟩
        · rintro ⟨j, hj, e⟩
          by_cases hjm : j = m
          · subst hjm; exact .inr e.symm
          · exact .inl ⟨j, by omega, e⟩
    · rw [if_neg hk, List.append_nil]
      refine ⟨h1, fun x => ?_⟩
      rw [h2]
      have hm0 : m ≠ 0 ∧ d[m]! = d[m - 1]! := by
        unfold Lib.keeps at hk
        simp at hk
        exact ⟨hk.1, by simpa using hk.2⟩
      constructor
      · rintro ⟨j, hj, e⟩; exact ⟨j, by omega, e⟩
      · rintro ⟨j, hj, e⟩
        by_cases hjm : j = m
        · subst hjm; exact ⟨j - 1, by omega, by rw [← hm0.2]; exact e⟩
        · exact ⟨j, by omega, e⟩
theorem comp_sorted {l : List Int} (h : l.Pairwise (· ≤ ·)) : (compL l).Pairwise (· < ·) ∧ ∀ x, x ∈ compL l ↔ x ∈ l := by
  unfold compL Lib.compact
  have hs : ∀ i j, i ≤ j → j < l.toArray.size → l.toArray[i]! ≤ l.toArray[j]! := fun i j hij hj => by
    have hj' : j < l.length := by simpa using hj
    rw [getElem!_pos l.toArray i (by simp; omega), getElem!_pos l.toArray j (by simpa using hj)]
    simp only [List.getElem_toArray]
    by_cases e : i = j
    · subst e; exact Int.le_refl _
    · exact List.pairwise_iff_getElem.1 h i j (by omega) hj' (by omega)
  obtain ⟨h1, h2⟩ := compUp hs l.length (by simp)
  refine ⟨h1, fun x => ?_⟩
  rw [h2, List.mem_iff_getElem]
  constructor
  · rintro ⟨j, hj, e⟩
    rw [getElem!_pos l.toArray j (by simpa using hj)] at e
    exact ⟨j, hj, by simpa using e⟩
  · rintro ⟨j, hj, e⟩
    refine ⟨j, hj, ?_⟩
    rw [getElem!_pos l.toArray j (by simpa using hj)]
    simpa using e
theorem sort_sorted (l : List Int) : (sortL l).Pairwise (· ≤ ·) ∧ ∀ x, x ∈ sortL l ↔ x ∈ l := by
  unfold sortL
  refine ⟨?_, fun x => List.mem_mergeSort⟩
  have := List.pairwise_mergeSort (le := fun x y : Int => decide (x ≤ y)) (fun a b c h1 h2 => by simp at *; omega) (fun a b => by simp; omega) l
  exact this.imp fun h => by simpa using h
theorem range_strict (n : Nat) (p : Nat → Bool) : (((List.range n).filter p).map Int.ofNat).Pairwise (· < ·) := by
  rw [List.pairwise_map]
  refine List.Pairwise.imp (R := (· < ·)) (fun h => by simpa using h) ?_
  exact List.Pairwise.filter _ List.pairwise_lt_range
theorem holders_eq {r : Reg} (v : Valid r) {N s : Nat} {out : List Nat} (hN : N ≤ 9) (hs : s < r.start.length) (h : EvOK r N out) : holdR r (s : Nat) out = refHolders r (allDays r) s N r.houses.toNat := by
  obtain ⟨h1, h2⟩ := ev_pairs v hN h
  have hs4 := v.s4
  unfold holdR
  obtain ⟨k1, k2⟩ := sort_sorted (holdL r out (s : Int).toNat)
  obtain ⟨q1, q2⟩ := comp_sorted k1
  refine zCg q1 (range_strict _ _) fun x => ?_
  rw [q2, k2]
  unfold holdL refHolders
  simp only [List.mem_map, List.mem_filter, List.mem_range, List.any_eq_true, beq_iff_eq, Int.toNat_natCast]
  constructor
  · rintro ⟨m, hm, rfl⟩
    obtain ⟨o, ho, p1, _, p3⟩ := h1 m hm
    have := p3 s hs
    refine ⟨((placesA r m).getD s 0).toNat, ⟨by omega, o, ho, ?_⟩, ?_⟩
    · rw [p1 s (by omega)]; omega
    · show ((_ : Nat) : Int) = _
      omega
  · rintro ⟨x, ⟨_, o, ho, e⟩, rfl⟩
    obtain ⟨m, hm, p1, _⟩ := h2 o ho
    exact ⟨m, hm, by rw [← p1 s (by omega), e]; rfl⟩
end Go.Proofs.YtaokpncjemkhcaaGreat
