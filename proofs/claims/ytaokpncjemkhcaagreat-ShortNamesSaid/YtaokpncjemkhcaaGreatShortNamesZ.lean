/-
  The law ShortNames returns true for every input, and leaves its arguments as they were: the given statement, whole. No condition.
-/
import Derived.WalkKit
import Derived.Deep.RegionWith
import Derived.Laws.StructEq
import Derived.Test.YtaokpncjemkhcaaGreatShortNamesM
namespace Go.Proofs
open Go.Shelf Go.RowKit Go.Lib Go.Sort
set_option linter.all false
abbrev T4 := Int × Int × Int × Int
def Tryz.encH (x : T4) : List Value := [.int .i64 x.1, .int .i64 x.2.1, .int .i64 x.2.2.1, .int .i64 x.2.2.2]
def Tryz.cmpH (x y : T4) : Int :=
  if Lib.compareInt x.1 y.1 ≠ 0 then Lib.compareInt x.1 y.1 else if Lib.compareInt x.2.1 y.2.1 ≠ 0 then Lib.compareInt x.2.1 y.2.1 else
  if Lib.compareInt x.2.2.1 y.2.2.1 ≠ 0 then Lib.compareInt x.2.2.1 y.2.2.1 else Lib.compareInt x.2.2.2 y.2.2.2
set_option maxHeartbeats 4000000 in
theorem Tryz.compare124 (b1 b2 : Nat) (x y : T4) (W : World)
    (h0 : W.cell? ⟨b1, 0, none⟩ = some (.int .i64 x.1)) (h1 : W.cell? ⟨b1, 1, none⟩ = some (.int .i64 x.2.1)) (h2 : W.cell? ⟨b1, 2, none⟩ = some (.int .i64 x.2.2.1)) (h3 : W.cell? ⟨b1, 3, none⟩ = some (.int .i64 x.2.2.2))
    (g0 : W.cell? ⟨b2, 0, none⟩ = some (.int .i64 y.1)) (g1 : W.cell? ⟨b2, 1, none⟩ = some (.int .i64 y.2.1)) (g2 : W.cell? ⟨b2, 2, none⟩ = some (.int .i64 y.2.2.1)) (g3 : W.cell? ⟨b2, 3, none⟩ = some (.int .i64 y.2.2.2)) :
    Calls Tryz.prog 124 #[.slice (some ⟨b1, 0, none⟩) 4 4, .slice (some ⟨b2, 0, none⟩) 4 4] W fun e w' => e = .returned (.int .i64 (Tryz.cmpH x y)) ∧ ∃ q, w' = W.drewN q := by
  have hcon := fun a b W' => Tryz.cmp_Compare_int a b W'
  obtain ⟨x0, x1, x2, x3⟩ := x
  obtain ⟨y0, y1, y2, y3⟩ := y
  simp only at h0 h1 h2 h3 g0 g1 g2 g3 ⊢
  generalize hR : Tryz.cmpH (x0, x1, x2, x3) (y0, y1, y2, y3) = R
  go_enter Tryz.func124, Tryz.ntmps124
  go_wp2
  refine wp_loop_rounds 5 ?_
  rw [rounds_succ]
  go_wp2_with (go_at_call 145; refine (hcon _ _ _).mono ?_; rintro e w' ⟨rfl, rfl⟩)
  · go_ret
    exact ⟨by rw [← hR]; simp_all [Tryz.cmpH], 0, rfl⟩
  · skip
    rw [rounds_succ]
    go_wp2_with (go_at_call 145; refine (hcon _ _ _).mono ?_; rintro e w' ⟨rfl, rfl⟩)
    · go_ret
      exact ⟨by rw [← hR]; simp_all [Tryz.cmpH], 0, rfl⟩
    · skip
      rw [rounds_succ]
      go_wp2_with (go_at_call 145; refine (hcon _ _ _).mono ?_; rintro e w' ⟨rfl, rfl⟩)
      · go_ret
        exact ⟨by rw [← hR]; simp_all [Tryz.cmpH], 0, rfl⟩
      · skip
        rw [rounds_succ]
        go_wp2_with (go_at_call 145; refine (hcon _ _ _).mono ?_; rintro e w' ⟨rfl, rfl⟩)
        · go_ret
          exact ⟨by rw [← hR]; simp_all [Tryz.cmpH], 0, rfl⟩
        · skip
          rw [rounds_succ]
          go_wp2
          go_ret
          exact ⟨by rw [← hR]; simp_all [Tryz.cmpH], 0, rfl⟩
set_option maxHeartbeats 4000000 in
theorem Tryz.closure123 (x y : T4) (W : World) : Calls Tryz.prog 123 #[.agg #[.int .i64 x.1, .int .i64 x.2.1, .int .i64 x.2.2.1, .int .i64 x.2.2.2], .agg #[.int .i64 y.1, .int .i64 y.2.1, .int .i64 y.2.2.1, .int .i64 y.2.2.2]] W fun e w' =>
    e = .returned (.int .i64 (Tryz.cmpH x y)) ∧ ∃ q os', w' = grow (W.drewN q) os' := by
  have hcon := fun b1 b2 W' => Tryz.compare124 b1 b2 x y W'
  generalize hR : Tryz.cmpH x y = R at hcon ⊢
  go_enter Tryz.func123, Tryz.ntmps123
  go_wp2
  go_region_with (go_at_call 124; refine (hcon _ _ _ (by simp [go_sem]) (by simp [go_sem]) (by simp [go_sem]) (by simp [go_sem]) (by simp [go_sem]) (by simp [go_sem]) (by simp [go_sem]) (by simp [go_sem])).mono ?_; rintro e w' ⟨rfl, q, rfl⟩)
  go_wp2
  go_ret
  exact ⟨rfl, 1 + q, _, by rw [alloc_eq_grow, alloc_eq_grow, grow_grow]; simp [grow, World.drewN, World.drew, Nat.add_assoc]; rfl⟩
end Go.Proofs
namespace Go.Proofs.YtaokpncjemkhcaaGreat
open Go.RowKit Go.Sort Go.Lib Go.Proofs
set_option linter.all false
theorem zC6 (a b : Int) : (a < b ∧ Lib.compareInt a b = -1) ∨ (a = b ∧ Lib.compareInt a b = 0) ∨ (b < a ∧ Lib.compareInt a b = 1) := by
  unfold Lib.compareInt
  rcases Int.lt_trichotomy a b with h | h | h
  · left; exact ⟨h, by simp [h]⟩
  · right; left; subst h; exact ⟨rfl, by simp⟩
  · right; right
    have : ¬ a < b := by omega
    exact ⟨h, by simp [h, this]⟩
theorem ltH (x y : T4) : ltOf Tryz.cmpH x y = decide (x.1 < y.1 ∨ (x.1 = y.1 ∧ (x.2.1 < y.2.1 ∨ (x.2.1 = y.2.1 ∧ (x.2.2.1 < y.2.2.1 ∨ (x.2.2.1 = y.2.2.1 ∧ x.2.2.2 < y.2.2.2)))))) := by
  unfold ltOf Tryz.cmpH
  rw [Bool.eq_iff_iff, decide_eq_true_eq, decide_eq_true_eq]
  rcases zC6 x.1 y.1 with ⟨h, e⟩ | ⟨h, e⟩ | ⟨h, e⟩
  · rw [e, if_pos (by decide)]; omega
  · rw [e, if_neg (by decide)]
    rcases zC6 x.2.1 y.2.1 with ⟨h2, e⟩ | ⟨h2, e⟩ | ⟨h2, e⟩
    · rw [e, if_pos (by decide)]; omega
    · rw [e, if_neg (by decide)]
      rcases zC6 x.2.2.1 y.2.2.1 with ⟨h3, e⟩ | ⟨h3, e⟩ | ⟨h3, e⟩
      · rw [e, if_pos (by decide)]; omega
      · rw [e, if_neg (by decide)]
        rcases zC6 x.2.2.2 y.2.2.2 with ⟨h4, e⟩ | ⟨h4, e⟩ | ⟨h4, e⟩ <;> rw [e] <;> omega
      · rw [e, if_pos (by decide)]; omega
    · rw [e, if_pos (by decide)]; omega
  · rw [e, if_pos (by decide)]; omega
theorem swoH : SWO (ltOf Tryz.cmpH) where
  irrefl x := by rw [ltH]; simp
  trans x y z h1 h2 := by rw [ltH, decide_eq_true_eq] at *; omega
  ntrans x y z h1 h2 := by rw [ltH, decide_eq_false_iff_not] at *; omega
theorem totH (x y : T4) (h1 : ltOf Tryz.cmpH x y = false) (h2 : ltOf Tryz.cmpH y x = false) : x = y := by
  rw [ltH, decide_eq_false_iff_not] at *
  obtain ⟨a, b, c, d⟩ := x
  obtain ⟨a', b', c', d'⟩ := y
  simp only at h1 h2
  simp only [Prod.mk.injEq]
  omega
theorem cmpLaysH (blk off size : Nat) (w : World) : CmpLays Tryz.prog 123 #[] Tryz.encH 4 Tryz.cmpH blk off size w := fun _ _ _ _ x y => Tryz.closure123 x y _
def flat4 (ts : List T4) : List Int := ts.flatMap fun x => [x.1, x.2.1, x.2.2.1, x.2.2.2]
theorem yQ (ts : List T4) : (flat4 ts).length = ts.length * 4 := by
  induction ts with
  | nil => rfl
  | cons x ts ih => simp only [flat4, List.flatMap_cons, List.length_append, List.length_cons, List.length_nil] at ih ⊢; omega
theorem zCl : ∀ (ts : List T4) (i : Nat), i < ts.length * 4 → (flat4 ts)[i]? = (([(ts.getD (i / 4) (0, 0, 0, 0)).1, (ts.getD (i / 4) (0, 0, 0, 0)).2.1, (ts.getD (i / 4) (0, 0, 0, 0)).2.2.1, (ts.getD (i / 4) (0, 0, 0, 0)).2.2.2] : List Int))[i % 4]?
  | [], i, h => by simp at h
  | x :: ts, i, h => by
    show ([x.1, x.2.1, x.2.2.1, x.2.2.2] ++ flat4 ts)[i]? = _
    by_cases hi : i < 4
    · rw [List.getElem?_append_left (by simpa using hi), Nat.div_eq_of_lt hi, Nat.mod_eq_of_lt hi]; rfl
    · obtain ⟨j, rfl⟩ : ∃ j, i = j + 4 := ⟨i - 4, by omega⟩
      rw [List.getElem?_append_right (by simp), show j + 4 - [x.1, x.2.1, x.2.2.1, x.2.2.2].length = j from by simp, zCl ts j (by simp only [List.length_cons] at h; omega)]
      rw [show (j + 4) / 4 = j / 4 + 1 by omega, show (j + 4) % 4 = j % 4 by omega]
      rfl
theorem zB7 (ts : List T4) : flatK Tryz.encH 4 ts.toArray = ((flat4 ts).map (Value.int .i64)).toArray := by
  apply Array.ext
  · simp [yQ]
  · intro i h1 h2
    have hi : i < ts.length * 4 := by simpa using h1
    have := get_flatK Tryz.encH 4 ts.toArray i (by simpa using hi)
    rw [getElem!_pos _ i h1] at this
    rw [this]
    have hg := zCl ts i hi
    have hd : ts.toArray[i / 4]! = ts.getD (i / 4) (0, 0, 0, 0) := by
      have hlt : i / 4 < ts.length := by omega
      rw [getElem!_pos _ _ (by simpa using hlt), List.getD_eq_getElem?_getD, List.getElem?_eq_getElem hlt]; simp
    rw [hd]
    simp only [List.getElem_toArray, List.getElem_map]
    rw [List.getElem?_eq_getElem (by rw [yQ]; exact hi)] at hg
    have h4 : i % 4 < 4 := Nat.mod_lt _ (by decide)
    generalize i % 4 = m at hg h4 ⊢
    generalize ts.getD (i / 4) (0, 0, 0, 0) = t at hg ⊢
    have hm : m = 0 ∨ m = 1 ∨ m = 2 ∨ m = 3 := by omega
    rcases hm with rfl | rfl | rfl | rfl <;> (simp only [List.getElem?_cons_zero, List.getElem?_cons_succ, Option.some.injEq] at hg; rw [hg]; rfl)
theorem putRow_id (w : World) (b : Nat) (l : List Int) : putRow id w b 0 (l.map (Value.int .i64)).toArray = putRow (Value.int .i64) w b 0 l.toArray := by
  unfold putRow
  congr 1
  funext c
  apply Array.ext
  · simp [putCells]
  · intro i h1 h2
    simp only [putCells, Array.getElem_mapIdx]
    by_cases hi : i < l.length
    · rw [if_pos (by simp; omega), if_pos (by simp; omega)]
      simp only [Nat.sub_zero, id]
      rw [getElem!_pos _ i (by simpa using hi), getElem!_pos _ i (by simpa using hi)]; simp
    · rw [if_neg (by simp; omega), if_neg (by simp; omega)]
theorem holds_id {w : World} {b : Nat} {l : List Int} (h : Holds (Value.int .i64) w b 0 l.toArray) : Holds id w b 0 (l.map (Value.int .i64)).toArray := fun j hj => by
  have hj' : j < l.length := by simpa using hj
  obtain ⟨h1, h2⟩ := h j (by simpa using hj')
  refine ⟨?_, h2⟩
  rw [h1, getElem!_pos _ j (by simpa using hj'), getElem!_pos _ j (by simpa using hj')]; simp
@[reducible] def t4T (ts : List T4) : List TV := (flat4 ts).map fun n => TV.d (.int .i64 n)
theorem eff_putRowH {P : Program} {f g : FuncId} {b cap m : Nat} {l l' : List Int} {rest : List TV} {ty : TypeId} (he : Ent P f) (hl : l'.length = l.length)
    (hc : ∀ w, Holds (Value.int .i64) w b 0 l.toArray → b < w.heap.size → Calls P f #[.slice (some ⟨b, 0, none⟩) m cap, .func (.func g) #[] #[]] w fun e w' => e = .returned (.tuple #[]) ∧ ∃ n os, w' = Go.Sort.grow (putRow (Value.int .i64) (Go.Sort.ahead w n) b 0 l'.toArray) os) :
    EffAt P f [.val (.slice (some ⟨b, 0, none⟩) m cap), .d (.fn (.func g) [] [])] [(1041, .box b ty (l.map (fun n => TV.d (.int .i64 n)) ++ rest))] (X := Unit) (fun _ => .d (.tup [])) (fun _ => [(1041, .box b ty (l'.map (fun n => TV.d (.int .i64 n)) ++ rest))]) := by
  refine ⟨he, fun w F vs hr hh => ?_⟩
  obtain ⟨u, us, rfl, hu, u2, us2, rfl, hf, hus⟩ := hr
  cases hus
  simp only [TRep] at hu
  subst hu
  obtain ⟨vf, vc, rfl, hvf, hvc⟩ := hf
  cases hvf
  cases hvc
  obtain ⟨hown, hF, cs, hb, hcs, hone⟩ := hh.res 1041 _ (zb _ _ _)
  obtain ⟨xs, ys, rfl, hxs, hys⟩ := hcs.puts
  obtain rfl := kJ.1 hxs
  have hlt := yS hb
  have hH : Holds (Value.int .i64) w b 0 l.toArray := fun j hj => by
    have hj' : j < l.length := by simpa using hj
    rw [Nat.zero_add]
    constructor
    · rw [yY hb, List.getElem?_append_left (by simpa using hj')]
      simp [hj']
    · simp [World.frozen?, hb]
  refine (hc w hH hlt).mono fun e w' hw => ?_
  obtain ⟨rfl, n, os, rfl⟩ := hw
  have hblk : ∀ k, k < w.heap.size → k ≠ b → (Go.Sort.grow (putRow (Value.int .i64) (Go.Sort.ahead w n) b 0 l'.toArray) os).heap[k]? = w.heap[k]? := fun k hk hkb => by
    simp only [Go.Sort.grow, putRow, mapBlock, Go.Sort.ahead]
    rw [Array.getElem?_append_left (by simpa using hk), Array.getElem?_modify, if_neg (Ne.symm hkb)]
  have hbb : (Go.Sort.grow (putRow (Value.int .i64) (Go.Sort.ahead w n) b 0 l'.toArray) os).heap[b]? = some (.cells (l'.map (Value.int .i64) ++ ys).toArray ty (0, 0)) := by
    simp only [Go.Sort.grow, putRow, mapBlock, Go.Sort.ahead]
    rw [Array.getElem?_append_left (by simpa using hlt), Array.getElem?_modify, if_pos rfl, hb]
    simp only [Option.map_some, onCells, Option.some.injEq, Obj.cells.injEq, and_self, and_true]
    apply Array.ext'
    rw [zDt l l' ys hl]
  have hcell : ∀ c o, F c o → (Go.Sort.grow (putRow (Value.int .i64) (Go.Sort.ahead w n) b 0 l'.toArray) os).cell? ⟨c, o, none⟩ = w.cell? ⟨c, o, none⟩ := fun c o hf => by
    have hcb : c ≠ b := fun e => by subst e; exact hF o hf
    obtain ⟨u, hu⟩ := hh.fcell c o hf
    have := hblk c (World.block_lt_of_cell? w ⟨c, o, none⟩ hu) hcb
    simp [World.cell?, this]
  have hsz : w.heap.size ≤ (Go.Sort.grow (putRow (Value.int .i64) (Go.Sort.ahead w n) b 0 l'.toArray) os).heap.size := by simp [Go.Sort.grow, putRow, mapBlock, Go.Sort.ahead]
  refine ⟨(), _, F, rfl, ⟨[], rfl, rfl⟩, {
    os := rfl
    tape := rfl
    output := rfl
    hsize := hsz
    old := fun k hk hkl => hblk k hk (fun e => hkl ⟨1041, _, zb _ _ _, e.symm⟩)
    fcell := fun c o hf => by obtain ⟨u, hu⟩ := hh.fcell c o hf; exact ⟨u, (hcell c o hf).trans hu⟩
    glob := hh.glob
    keep := hcell
    f0 := fun _ _ h => h
    fnew := fun _ _ h _ _ => h
    res := fun i r hr => ?_
    sep := fun i i' r r' c k1 k2 _ _ => ?_ }⟩
  · rw [kT] at hr
    split at hr
    · cases hr
      refine ⟨.inr ⟨1041, _, zb _ _ _, rfl⟩, hF, _, hbb, ?_, ?_⟩
      · exact (kJ.2 rfl).append (hys.ext' fun c o hf => ⟨hf, hcell c o hf⟩)
      · intro u hu
        rcases List.mem_append.1 hu with hu | hu
        · obtain ⟨m, _, rfl⟩ := List.mem_map.1 hu; rfl
        · exact hone u (by simp [hu])
    · simp [lk] at hr
  · rw [kT] at k1 k2
    split at k1 <;> split at k2
    · omega
    · simp [lk] at k2
    · simp [lk] at k1
    · simp [lk] at k1
def sort4 (ts : List T4) : List T4 := ts.mergeSort fun x y => !(ltOf Tryz.cmpH y x)
theorem sortH_eff {b cap n : Nat} (ts : List T4) (rest : List TV) (hn : n = ts.length) (hts : ts.length < 4611686018427387904) :
    EffAt Tryz.prog 122 [.val (.slice (some ⟨b, 0, none⟩) n cap), .d (.fn (.func 123) [] [])] [(1041, .box b 121 (t4T ts ++ rest))] (X := Unit) (fun _ => .d (.tup [])) (fun _ => [(1041, .box b 121 (t4T (sort4 ts) ++ rest))]) := by
  subst hn
  refine eff_putRowH (kZ (fn := Tryz.f122) (by kernel_rfl) rfl rfl) (by rw [yQ, yQ, sort4, List.length_mergeSort]) fun w hH hlt => ?_
  have eg : ∀ args w, (callFunc 123 args).run Tryz.prog w = .ok (.enter 123 args) w := enters_of Tryz.func123 (by kernel_rfl) rfl
  have hK : HoldsK Tryz.encH 4 w b 0 ts.toArray := by unfold HoldsK; rw [zB7]; exact holds_id hH
  have hS := AnyQ.slices_SortFunc_total Tryz.sortH 4 Tryz.isAgg121 Tryz.sizeOf121 Tryz.encH (fun _ => rfl) (fun x v hv => by simp [Tryz.encH] at hv; rcases hv with rfl | rfl | rfl | rfl <;> rfl) Tryz.cmpH swoH 123 #[] b 0 cap ts.toArray w eg (cmpLaysH b 0 ts.toArray.size w) hK hlt (by simpa using hts) totH
  change Calls Tryz.prog 122 _ _ _ at hS
  rw [show ts.toArray.size = ts.length from by simp] at hS
  refine hS.mono fun e w' ⟨he, q, os, hw⟩ => ⟨he, q, os, ?_⟩
  rw [hw]
  unfold sortWorldK putRowK
  rw [zB7, putRow_id]
  rfl
theorem sortV_eff {v : Value} {ts : List T4} (hV : VecV v 4 (t4T ts)) (hts : ts.length < 4611686018427387904) :
    EffAt Tryz.prog 122 [.val v, .d (.fn (.func 123) [] [])] [(1041, vecRes 121 v 4 (t4T ts))] (X := Unit) (fun _ => .d (.tup [])) (fun _ => [(1041, vecRes 121 v 4 (t4T (sort4 ts)))]) := by
  rcases hV with ⟨rfl, h0⟩ | ⟨b, n, cap, rfl, h1, h2, h3⟩
  · have ht : ts = [] := by
      have := yQ ts
      rw [List.map_eq_nil_iff] at h0
      rw [h0] at this
      exact List.eq_nil_of_length_eq_zero (by simp at this; omega)
    subst ht
    refine ⟨kZ (fn := Tryz.f122) (by kernel_rfl) rfl rfl, fun w F vs hr hh => ?_⟩
    obtain ⟨u, us, rfl, hu, u2, us2, rfl, hf, hus⟩ := hr
    cases hus
    simp only [TRep] at hu
    subst hu
    obtain ⟨vf, vc, rfl, hvf, hvc⟩ := hf
    cases hvf
    cases hvc
    have hS := AnyF.slices_SortFunc_none (P := Tryz.prog) (ρ := Tryz.sortH_ren) { Tryz.sortH with } none 0 (.func (.func 123) #[] #[]) w
    change Calls Tryz.prog 122 _ _ _ at hS
    refine hS.mono fun e w' ⟨he, hw⟩ => ?_
    subst hw
    exact ⟨(), _, F, he, ⟨[], rfl, rfl⟩, hh⟩
  · have hn : n = ts.length := by rw [List.length_map, yQ] at h3; omega
    have hlen : (t4T (sort4 ts)).length = (t4T ts).length := by rw [List.length_map, List.length_map, yQ, yQ, sort4, List.length_mergeSort]
    exact sortH_eff ts _ hn hts
end Go.Proofs.YtaokpncjemkhcaaGreat
namespace Go.Proofs.YtaokpncjemkhcaaGreat
open Go.RowKit Go.Sort Go.Proofs
set_option linter.all false
def tup4 (h : List Int) : T4 := (h.getD 0 0, h.getD 1 0, h.getD 2 0, h.getD 3 0)
def untup (N : Nat) (t : T4) : List Int := [t.1, t.2.1, t.2.2.1, t.2.2.2].take N
theorem zBR (h : List Int) : hand4 h = [(tup4 h).1, (tup4 h).2.1, (tup4 h).2.2.1, (tup4 h).2.2.2] := rfl
theorem zAZ {h : List Int} (hN : h.length ≤ 4) : hand4 h = h ++ List.replicate (4 - h.length) 0 := by
  match h, hN with
  | [], _ => rfl
  | [_], _ => rfl
  | [_, _], _ => rfl
  | [_, _, _], _ => rfl
  | [_, _, _, _], _ => rfl
  | _ :: _ :: _ :: _ :: _ :: _, h => simp at h
theorem zBd {h : List Int} (hN : h.length ≤ 4) : untup h.length (tup4 h) = h := by
  unfold untup
  rw [← zBR, zAZ hN, List.take_left]
theorem zEN {z : List Int} : ∀ {a b : List Int}, a.length = b.length → lexB (a ++ z) (b ++ z) = lexB a b
  | [], [], _ => by simp only [List.nil_append]; rw [zBN]; rfl
  | [], _ :: _, h => by cases h
  | _ :: _, [], h => by cases h
  | x :: a, y :: b, h => by
    have := zEN (z := z) (a := a) (b := b) (by simpa using h)
    show (bif x != y then decide (x < y) else lexB (a ++ z) (b ++ z)) = (bif x != y then decide (x < y) else lexB a b)
    rw [this]
theorem lt_lex {a b : List Int} (ha : a.length ≤ 4) (hl : a.length = b.length) : ltOf Tryz.cmpH (tup4 a) (tup4 b) = lexB a b := by
  rw [← zEN (z := List.replicate (4 - a.length) 0) hl, ← zAZ ha]
  rw [show b ++ List.replicate (4 - a.length) 0 = hand4 b from by rw [hl]; exact (zAZ (by omega)).symm]
  rw [ltH, zBR, zBR]
  generalize tup4 a = x
  generalize tup4 b = y
  rw [Bool.eq_iff_iff, decide_eq_true_eq, yh, yh, yh, yh]
  have : lexB ([] : List Int) [] = false := rfl
  rw [this]
  simp
theorem zAp (ts : List T4) : (sort4 ts).Perm ts := List.mergeSort_perm _ _
theorem sort4_le (ts : List T4) : (sort4 ts).Pairwise fun x y => ltOf Tryz.cmpH y x = false := by
  have := List.pairwise_mergeSort (le := fun x y => !(ltOf Tryz.cmpH y x)) (fun a b c h1 h2 => by
    simp only [Bool.not_eq_true'] at h1 h2 ⊢
    exact swoH.ntrans c b a h2 h1) (fun a b => by
    cases h1 : ltOf Tryz.cmpH b a with
    | false => rfl
    | true =>
      cases h2 : ltOf Tryz.cmpH a b with
      | false => rfl
      | true => have := swoH.trans _ _ _ h1 h2; rw [swoH.irrefl] at this; cases this) ts
  exact this.imp fun h => by simpa using h
theorem tup_inj {N : Nat} {a b : List Int} (hN : N ≤ 4) (ha : a.length = N) (hb : b.length = N) (h : tup4 a = tup4 b) : a = b := by
  rw [← zBd (h := a) (by omega), ← zBd (h := b) (by omega), h, ha, hb]
theorem zCH {r : Reg} {N : Nat} (v : Valid r) (hN : N ≤ 9) : sort4 ((rawHands r N).map tup4) = (handsL r N).map tup4 := by
  have h4 : r.houses.toNat ≤ 4 := by have := v.h4; omega
  have hlen : ∀ h ∈ rawHands r N, h.length = r.houses.toNat := fun h hh => ((zEA v hN).1 hh).1
  have hS : ∀ t ∈ sort4 ((rawHands r N).map tup4), ∃ h ∈ rawHands r N, t = tup4 h := fun t ht => by
    obtain ⟨h, hh, e⟩ := List.mem_map.1 ((zAp _).mem_iff.1 ht)
    exact ⟨h, hh, e.symm⟩
  have hun : ∀ h ∈ rawHands r N, untup r.houses.toNat (tup4 h) = h := fun h hh => by
    have := zBd (h := h) (by rw [hlen h hh]; exact h4)
    rwa [hlen h hh] at this
  have hnd : (sort4 ((rawHands r N).map tup4)).Nodup := by
    rw [(zAp _).nodup_iff]
    refine List.Pairwise.map _ (R := fun a b => a ∈ rawHands r N ∧ b ∈ rawHands r N ∧ a ≠ b) (fun a b h e => h.2.2 (tup_inj h4 (hlen a h.1) (hlen b h.2.1) e)) ?_
    have := raw_nodup (r := r) (N := N)
    exact List.Pairwise.imp_of_mem (fun ha hb h => ⟨ha, hb, h⟩) this
  have hL : (sort4 ((rawHands r N).map tup4)).map (untup r.houses.toNat) = handsL r N := by
    refine sorted_hands v hN ?_ fun l => ?_
    · unfold Sorted8
      rw [List.pairwise_map]
      refine List.Pairwise.imp_of_mem (R := fun x y => ltOf Tryz.cmpH y x = false ∧ x ≠ y) (fun {x y} hx hy h => ?_) ((sort4_le _).and hnd)
      obtain ⟨a, ha, rfl⟩ := hS x hx
      obtain ⟨b, hb, rfl⟩ := hS y hy
      rw [hun a ha, hun b hb]
      have e1 := hlen a ha
      have e2 := hlen b hb
      rw [lt_lex (by omega) (by omega)] at h
      cases hc : lexB a b with
      | true => rfl
      | false => exact (h.2 (by rw [zET (by omega) hc h.1])).elim
    · rw [List.mem_map]
      constructor
      · rintro ⟨t, ht, rfl⟩
        obtain ⟨h, hh, rfl⟩ := hS t ht
        rw [hun h hh]; exact hh
      · intro hl
        exact ⟨tup4 l, (zAp _).mem_iff.2 (List.mem_map.2 ⟨l, hl, rfl⟩), hun l hl⟩
  rw [← hL, List.map_map]
  conv => lhs; rw [← List.map_id (sort4 ((rawHands r N).map tup4))]
  refine List.map_congr_left fun t ht => ?_
  obtain ⟨h, hh, rfl⟩ := hS t ht
  show tup4 h = tup4 (untup r.houses.toNat (tup4 h))
  rw [hun h hh]
theorem zAa (hs : List (List Int)) : t4T (hs.map tup4) = (hs.map handE).flatten.map .d := by
  induction hs with
  | nil => rfl
  | cons h hs ih =>
    show ([h.getD 0 0, h.getD 1 0, h.getD 2 0, h.getD 3 0] ++ flat4 (hs.map tup4)).map _ = _
    rw [List.map_append, show (h :: hs).map handE = handE h :: hs.map handE from rfl, List.flatten_cons, List.map_append, ← ih]
    rfl
theorem zDr (hs : List (List Int)) (h : List Int) : t4T ((hs ++ [h]).map tup4) = t4T (hs.map tup4) ++ [handE h].flatten.map .d := by
  rw [zAa, zAa, List.map_append, List.flatten_append, List.map_append]; rfl
theorem zB1 {hs : List (List Int)} : ∀ c ∈ hs.map handE, c.length = 4 := fun c hc => by obtain ⟨x, _, rfl⟩ := List.mem_map.1 hc; rfl
theorem vecV_len {v : Value} {sz : Nat} {cs cs' : List TV} (h : VecV v sz cs) (e : cs'.length = cs.length) : VecV v sz cs' := by
  rcases h with ⟨h1, h2⟩ | ⟨b, n, cap, h1, h2, h3, h4⟩
  · left; subst h2; exact ⟨h1, List.eq_nil_of_length_eq_zero (by simpa using e)⟩
  · right; exact ⟨b, n, cap, h1, h2, h3, e.trans h4⟩
theorem gh_gone {Γ : Cx} {σ : St} (id : Nat) : Ghost Γ σ (σ.rput id .gone) := fun a w F hs => ⟨F, hs.rput trivial (fun b hb => hb.elim), fun _ _ h => h⟩
theorem flatten_len {es : List (List D)} {sz : Nat} (h : ∀ c ∈ es, c.length = sz) : es.flatten.length = es.length * sz := yq h
theorem PureAt.vecV {P : Program} {f : FuncId} {ds1 ds2 : List D} {r : D} {u : Value} {sz : Nat} {es : List (List D)} {id e : Nat} {v : Value} {cs : List TV} (h : PureAt P f (ds1 ++ .slice sz es :: ds2) r) (hr : r.sim = some u) (hV : VecV v sz cs)
    (hc : cs = es.flatten.map .d) (hsz : ∀ c ∈ es, c.length = sz) (hpos : 0 < sz) :
    EffAt P f (ds1.map .d ++ .val v :: ds2.map .d) [(id, vecRes e v sz cs)] (X := Unit) (fun _ => .d r) (fun _ => [(id, vecRes e v sz cs)]) := by
  have hfl := flatten_len hsz
  rcases hV with ⟨rfl, h0⟩ | ⟨b, n, cap, rfl, h1, h2, h3⟩
  · have he : es = [] := by
      rw [hc, List.map_eq_nil_iff] at h0
      rw [h0] at hfl
      have : es.length * sz = 0 := hfl.symm
      rcases Nat.mul_eq_zero.1 this with k | k
      · exact List.eq_nil_of_length_eq_zero k
      · omega
    subst he
    refine ⟨h.1, fun w F vs hv hh => ?_⟩
    obtain ⟨xs, ys, rfl, hx, hy⟩ := hv.split
    obtain ⟨v1, zs, rfl, hv1, hz⟩ := hy
    have hrow : Rep F w (.slice sz []) v1 := by
      simp only [TRep] at hv1
      exact ⟨none, 0, hv1, Nat.le_refl _, Nat.zero_le _, .inl rfl⟩
    have hargs : RepVals F w (ds1 ++ .slice sz [] :: ds2) (xs ++ v1 :: zs) := (hx.of_d).append ⟨v1, zs, rfl, hrow, hz.of_d⟩
    have hglob : GOK w (fun _ => False) := fun g hg => by
      obtain ⟨h1, h2, h3⟩ := hh.glob g hg
      exact ⟨h1, fun k => k, h3⟩
    refine (h.2 w F _ hh.fcell hglob hargs).mono fun e w' ⟨v, F2, e1, hb, hrep, _⟩ => ⟨(), v, F, e1, ?_, ?_⟩
    · exact (kz hr).2 ((kz hr).1 hrep)
    · have hlt : ∀ c o, F c o → c < w.heap.size := fun c o hf => by
        obtain ⟨x, hx⟩ := hh.fcell c o hf
        exact World.block_lt_of_cell? w ⟨c, o, none⟩ hx
      exact {
        os := hb.os
        tape := hb.tape
        output := hb.output
        hsize := hb.size
        old := fun k hk _ => hb.block k hk
        fcell := fun c o hf => by
          obtain ⟨x, hx⟩ := hh.fcell c o hf
          exact ⟨x, (zAC (hb.block c (hlt c o hf))).trans hx⟩
        keep := fun c o hf => zAC (hb.block c (hlt c o hf))
        f0 := fun _ _ hf => hf
        fnew := fun _ _ hf _ _ => hf
        glob := hh.glob
        res := fun i r1 hi => by
          by_cases e2 : id = i
          · subst e2
            rw [zb] at hi
            cases hi
            trivial
          · rw [zm _ _ e2] at hi; cases hi
        sep := hh.sep }
  · have hn : n = es.length := by
      rw [hc, List.length_map, hfl] at h3
      exact (Nat.eq_of_mul_eq_mul_right hpos h3).symm
    exact PureAt.vec (rest := List.replicate ((cap - n) * sz) .any) h hr hn (by rw [hc]) hsz h1 h2
end Go.Proofs.YtaokpncjemkhcaaGreat
namespace Go.Proofs.YtaokpncjemkhcaaGreat
open Go.RowKit
set_option maxRecDepth 20000
set_option linter.all false
theorem waysX_get {l : Ldg} {N j : Nat} {x : List D} (h : (waysX l N)[j]? = some x) : ∃ p, (waysL l.reg N)[j]? = some p ∧ x = [ints p] := by
  unfold waysX at h
  rw [List.getElem?_map] at h
  cases hp : (waysL l.reg N)[j]? with
  | none => rw [hp] at h; cases h
  | some p => rw [hp] at h; exact ⟨p, rfl, (Option.some.inj h).symm⟩
theorem waysX_len (l : Ldg) (N : Nat) : ∀ x ∈ waysX l N, x.length = (#[9] : Array Tmp).size := fun x hx => by
  obtain ⟨p, _, rfl⟩ := List.mem_map.1 hx; rfl
theorem ways_bd {r : Reg} {N : Nat} {p : List Int} (v : Valid r) (hN : N ≤ 9) (h : p ∈ waysL r N) : p.length = r.start.length ∧ ∀ x ∈ p, 0 ≤ x ∧ x < r.houses := by
  obtain ⟨h1, o, ho, h2⟩ := (zCO v hN).1 h
  refine ⟨h1, fun x hx => ?_⟩
  obtain ⟨i, hi, rfl⟩ := List.mem_iff_getElem.1 hx
  have := h2 i hi
  rw [List.getD_eq_getElem?_getD, List.getElem?_eq_getElem hi, Option.getD_some] at this
  rw [← this]; exact zEZ v hN ho (by omega)
def cntL (p : List Int) : List Int := (List.range 4).map fun (a : Nat) => ((p.countP fun x => x == (a : Int) : Nat) : Int)
theorem zAe (p : List Int) : (cntL p).length = 4 := by simp [cntL]
theorem zEF {p : List Int} {a : Nat} (h : a < 4) : (cntL p).getD a 0 = ((p.countP fun x => x == (a : Int) : Nat) : Int) := by
  unfold cntL
  rw [List.getD_eq_getElem?_getD, List.getElem?_map, List.getElem?_range h]; rfl
theorem cnt_succ {p : List Int} {i n : Nat} (h : p[i]? = some (n : Int)) (hn : n < 4) : (cntL (p.take i)).set n ((cntL (p.take i)).getD n 0 + 1) = cntL (p.take (i + 1)) := by
  apply List.ext_getElem?
  intro a
  rw [List.getElem?_set, zAe]
  by_cases ha : a < 4
  · have e : (cntL (p.take (i + 1)))[a]? = some (((p.take (i + 1)).countP fun x => x == (a : Int) : Nat) : Int) := by unfold cntL; rw [List.getElem?_map, List.getElem?_range ha]; rfl
    rw [e, List.take_add_one, h, List.countP_append]
    by_cases hna : n = a
    · subst hna
      rw [if_pos rfl, if_pos ha, zEF ha]; simp
    · rw [if_neg hna]
      have e2 : (cntL (p.take i))[a]? = some (((p.take i).countP fun x => x == (a : Int) : Nat) : Int) := by unfold cntL; rw [List.getElem?_map, List.getElem?_range ha]; rfl
      rw [e2]
      have : ((n : Int) == (a : Int)) = false := by simp; omega
      simp [this]
  · have e1 : (cntL (p.take (i + 1)))[a]? = none := List.getElem?_eq_none (by rw [zAe]; omega)
    have e2 : (cntL (p.take i))[a]? = none := List.getElem?_eq_none (by rw [zAe]; omega)
    rw [e1, e2, if_neg (by omega)]
theorem vec_one4 {v : Value} {sz : Nat} {cs : List TV} (hV : VecV v sz cs) : (TV.val v).one = true := by
  rcases hV with ⟨rfl, _⟩ | ⟨b, n, cap, rfl, _⟩ <;> rfl
theorem cnt_bd {p : List Int} {a : Nat} : 0 ≤ (cntL p).getD a 0 ∧ (cntL p).getD a 0 ≤ p.length := by
  by_cases ha : a < 4
  · rw [zEF ha]
    have := List.countP_le_length (p := fun x => x == (a : Int)) (l := p)
    omega
  · rw [List.getD_eq_getElem?_getD, List.getElem?_eq_none (by rw [zAe]; omega)]; simp
theorem cnt_hand {H : Nat} {p : List Int} (hH : H ≤ 4) (hp : ∀ x ∈ p, 0 ≤ x ∧ x < (H : Int)) : intsT (cntL p) = (handE (countH H p)).map .d := by
  have key : ∀ a : Nat, a < 4 → ((p.countP fun x => x == (a : Int) : Nat) : Int) = (countH H p).getD a 0 := fun a ha => by
    unfold countH
    rw [List.getD_eq_getElem?_getD, List.getElem?_map]
    by_cases h : a < H
    · rw [List.getElem?_range h]; rfl
    · rw [List.getElem?_eq_none (by simpa using h)]
      have : (p.countP fun x => x == (a : Int)) = 0 := List.countP_eq_zero.2 fun x hx => by have := hp x hx; simp; omega
      rw [this]; rfl
  show [TV.d (.int .i64 _), TV.d (.int .i64 _), TV.d (.int .i64 _), TV.d (.int .i64 _)] = _
  simp only [key 0 (by decide), key 1 (by decide), key 2 (by decide), key 3 (by decide)]
  rfl
theorem zER {N : Nat} (hN : N ≤ 4) {out : List (List Int)} {h : List Int} (ho : ∀ x ∈ out, x.length = N) (hh : h.length = N) : anyH out h = out.any fun x => x == h := by
  unfold anyH
  rw [Bool.eq_iff_iff, List.any_eq_true, List.any_eq_true]
  constructor
  · rintro ⟨x, hx, e⟩
    exact ⟨x, hx, by rw [zEW hN hh (ho x hx)] at e; rw [eq_of_beq e]; simp⟩
  · rintro ⟨x, hx, e⟩
    exact ⟨x, hx, by rw [zEW hN hh (ho x hx), eq_of_beq e]; simp⟩
theorem raw_take {l : Ldg} {N j : Nat} {p : List Int} (h : (waysL l.reg N)[j]? = some p) : ((waysL l.reg N).take (j + 1)).foldl (fun o p => addNew o (countH l.reg.houses.toNat p)) [] = addNew (((waysL l.reg N).take j).foldl (fun o p => addNew o (countH l.reg.houses.toNat p)) []) (countH l.reg.houses.toNat p) := by
  rw [List.take_add_one, h, List.foldl_append]; rfl
theorem fold_len {H : Nat} {out : List (List Int)} {L : List (List Int)} (h : out = L.foldl (fun o p => addNew o (countH H p)) []) : ∀ x ∈ out, x.length = H := fun x hx => by
  subst h
  rcases (k8 L [] x).1 hx with h | ⟨p, _, rfl⟩
  · cases h
  · exact y7
theorem zDx {l : Ldg} {N : Nat} : ∀ (k : Nat) (hs : List Int), (∀ s, (candL l.reg N s).length ≤ 4) → (putN l N k hs).length ≤ 4 ^ k
  | 0, hs, _ => by
    show (if heldB l.reg N hs = true then [hs] else []).length ≤ _
    split <;> simp
  | k + 1, hs, hc => by
    show (if heldB l.reg N hs = true then (candL l.reg N hs.length).flatMap (fun h => putN l N k (hs ++ [h])) else []).length ≤ _
    split
    · have h1 : ∀ c : List Int, (c.flatMap fun h => putN l N k (hs ++ [h])).length ≤ c.length * 4 ^ k := fun c => by
        induction c with
        | nil => simp
        | cons x c ih =>
          have := zDx k (hs ++ [x]) hc
          simp only [List.flatMap_cons, List.length_append, List.length_cons, Nat.add_mul]
          omega
      have h2 := h1 (candL l.reg N hs.length)
      have h3 := Nat.mul_le_mul_right (4 ^ k) (hc hs.length)
      rw [Nat.pow_succ]; omega
    · simp
theorem zDG {H : Nat} : ∀ (L out : List (List Int)), (L.foldl (fun o p => addNew o (countH H p)) out).length ≤ out.length + L.length
  | [], out => by simp
  | p :: L, out => by
    have h1 := zDG (H := H) L (addNew out (countH H p))
    have h2 : (addNew out (countH H p)).length ≤ out.length + 1 := by unfold addNew; split <;> simp
    simp only [List.foldl_cons, List.length_cons]; omega
theorem ways_256 {l : Ldg} {N : Nat} (v : Valid l.reg) : (waysL l.reg N).length ≤ 256 := by
  have h := zDx (l := l) (N := N) l.reg.start.length [] fun s => (zEI v.h4).1
  have h2 : 4 ^ l.reg.start.length ≤ 4 ^ 4 := Nat.pow_le_pow_right (by decide) v.s4
  exact Nat.le_trans h (Nat.le_trans h2 (by decide))
theorem sz116 : Sz Tryz.prog 116 1 := (by kernel_rfl : (Tryz.prog.info? 116).map (·.size) = some 1)
theorem zr116 : (Tryz.prog.info? 116).map (·.zero) = some (some (.slice none 0 0)) := by kernel_rfl
theorem zr121 : (Tryz.prog.info? 121).map (·.zero) = some (some (.agg #[(.int .i64 0), (.int .i64 0), (.int .i64 0), (.int .i64 0)])) := by kernel_rfl
theorem elt116 : ElT Tryz.prog 116 121 4 32 := zAs Tryz.underlying116 (z := (.agg #[(.int .i64 0), (.int .i64 0), (.int .i64 0), (.int .i64 0)])) (by kernel_rfl) rfl (by decide)
theorem hands_eff (l : Ldg) (N : Nat) (hd5 : l.day = (N : Int)) (v : Valid l.reg) (hg0 : l.reg.sights = []) (hN9 : N ≤ 9) : EffAt Tryz.prog 90 [.d (ldgD l)] [] (X := Unit) (fun _ => .d (handsD (handsL l.reg N))) (fun _ => []) := by
 have hh4 := v.h4; have hh1 := v.h1; have hs4 := v.s4; have hHe : l.reg.houses = ((l.reg.houses.toNat : Nat) : Int) := (by omega)
 have h256 := ways_256 (l := l) (N := N) v
 refine EffAt.of_awpM Tryz.func90 rfl (by kernel_rfl) rfl fun Γ hn => ?_
 refine zC (zB ?_)
 refine stepW (zr 1 rfl rfl rfl (nb hn rfl) rfl rfl) fun b1 => ?_
 refine stepW (zh 2 rfl rfl rfl (nb hn rfl) zr116 rfl rfl) fun b2 => ?_
 refine zE (zA (zC (zC ?_)))
 refine zx (gh_nilcell (id := 2) (k := 0) 1041 121 4 rfl rfl) ?_
 refine zx (gh_gone 1041) ?_
 refine zB ?_
 refine sq rfl rfl hn rfl (zY rfl rfl (id := 1) rfl Tryz.underlying50 rfl sz50 rfl rfl sees0) ?_
 refine stepW (s_call [] (fun _ => places_fn l) rfl (zI rfl) rfl (nb hn rfl) (fun _ => trivial) rfl rfl (.refl _)) fun _ => ?_
 refine zE (zA (zV ?_))
 refine awp_rangeFunc (ι := {x : List (List Int) × Value // VecV x.2 4 (t4T (x.1.map tup4))}) (fun x => [(2, .box b2 116 [.val x.1.2]), (1041, vecRes 121 x.1.2 4 (t4T ((x.1.1).map tup4)))]) (fun j x => x.1.1 = ((waysL l.reg N).take j).foldl (fun o p => addNew o (countH l.reg.houses.toNat p)) []) (fun _ _ => False) ⟨([], .slice none 0 0), VecV.nil 4⟩ (places1_ok l N hd5 v hg0 hN9) rfl (waysX_len l N) (by rw [hn]; rfl) (.inl rfl) ⟨rfl, rfl, trivial⟩ rfl (fun _ => rfl) (fun _ => rfl) rfl rfl ?_ ?_ ?_
 ·
  rintro l0 r0 Γr j0 x0 ⟨⟨out, vo⟩, hVo⟩ hnr hrd hx0 hA0
  dsimp only at hA0 hVo
  obtain ⟨p, hp, rfl⟩ := waysX_get hx0
  obtain ⟨hpl, hpb⟩ := ways_bd v hN9 (List.mem_of_getElem? hp)
  have hol := fold_len hA0
  have ho256 := zDG (H := l.reg.houses.toNat) ((waysL l.reg N).take j0) []
  rw [← hA0] at ho256
  simp only [List.length_nil, List.length_take] at ho256
  refine zj ?_
  refine sqI rfl rfl (hnr.trans hn) rfl (zF rfl rfl) rfl ?_
  refine zu ?_
  refine aend_begin hrd rfl ?_
  refine yv (zz (zj ?_))
  refine stepWI ((zh 4 rfl rfl rfl (nb (hnr.trans hn) rfl) zr121 rfl rfl).i rfl) fun b4 => ?_
  refine zu (zi (zz (zz (zj ?_))))
  refine sqI rfl rfl (hnr.trans hn) rfl (zG rfl rfl) rfl ?_
  refine sqI rfl rfl (hnr.trans hn) rfl (z7 rfl rfl Tryz.underlying22) rfl ?_
  refine sqI rfl rfl (hnr.trans hn) rfl (zG rfl rfl) rfl ?_
  refine zu (zi (yv ?_))
  refine zBl (ι := {x : Nat // x ≤ p.length}) (fun x => (12, true, .d (.int .i64 (x.1 : Nat))) :: anys [13, 14, 15, 6, 16, 17, 18, 19, 20, 21]) (fun x => [(4, .box b4 121 (intsT (cntL (p.take x.1))))]) (fun x => p.length - x.1) ⟨0, Nat.zero_le _⟩ ⟨.inl rfl, zJ _⟩ ⟨.inl rfl, trivial⟩ ?_
  rintro ⟨i, hi⟩
  dsimp only
  refine zz (zj ?_)
  refine sqI rfl rfl (hnr.trans hn) rfl (yJ rfl rfl rfl) rfl ?_
  refine zu (zi (zz ?_))
  refine yg rfl (fun hb0 => ?_) (fun hb0 => ?_)
  ·
   have hil : i < p.length := by simpa using hb0
   obtain ⟨z, hz⟩ := z2 hil
   have hzb := hpb z (List.mem_of_getElem? hz)
   obtain ⟨n, rfl⟩ : ∃ n : Nat, z = (n : Int) := ⟨z.toNat, by omega⟩
   have hn4 : n < 4 := by omega
   have hcb := cnt_bd (p := p.take i) (a := n)
   have htl : (p.take i).length ≤ 4 := by rw [List.length_take]; omega
   refine yi (zi (zz (yv (zz (zj ?_)))))
   refine sqI rfl rfl (hnr.trans hn) rfl (q_index (i := i) rfl rfl rfl Tryz.underlying22 sz3 rfl (mget hz)) rfl ?_
   refine sqI rfl rfl (hnr.trans hn) rfl (zR rfl rfl Tryz.underlying3 rfl seesF0) rfl ?_
   refine sqI rfl rfl (hnr.trans hn) rfl (zF rfl rfl) rfl ?_
   refine zu (zi (zj ?_))
   refine sqI rfl rfl (hnr.trans hn) rfl (zG rfl rfl) rfl ?_
   refine sqI rfl rfl (hnr.trans hn) rfl (q_indexA (i := n) rfl rfl rfl Tryz.underlying121 sz3 rfl hn4) rfl ?_
   refine sqI rfl rfl (hnr.trans hn) rfl (zQ rfl rfl (id := 4) rfl Tryz.underlying3 rfl (intsT_get (by rw [zAe]; exact hn4)) sees0) rfl ?_
   refine sqI rfl rfl (hnr.trans hn) rfl (z6 rfl rfl rfl (i64w (by omega) rfl)) rfl ?_
   refine sqI rfl rfl (hnr.trans hn) rfl (q_indexA (i := n) rfl rfl rfl Tryz.underlying121 sz3 rfl hn4) rfl ?_
   refine stepWI ((s_store1 rfl rfl rfl rfl rfl rfl (id := 4) rfl sz3 (by show 0 + n * 1 < _; rw [zCo, zAe]; omega) (zCi.trans (congrArg intsT (cnt_succ hz hn4))) trivial).i rfl) fun _ => ?_
   refine zu (za (zi (zj ?_)))
   refine sqI rfl rfl (hnr.trans hn) rfl (z6 rfl rfl rfl (r := ((i + 1 : Nat) : Int)) (i64w (by omega) (by omega))) rfl ?_
   refine sqI rfl rfl (hnr.trans hn) rfl (zG rfl rfl) rfl ?_
   refine zu ?_
   exact zZ ⟨i + 1, by omega⟩ ⟨.inl rfl, zJ _⟩ ⟨.inl rfl, trivial⟩ (by simp only; omega) (by repeat (first | exact kr _ | refine kc rfl ?_)) (by repeat (first | exact kr _ | refine kc rfl ?_))
  ·
   obtain rfl : i = p.length := by simp at hb0; omega
   rw [List.take_length, cnt_hand (H := l.reg.houses.toNat) (by omega) (fun x hx => by have := hpb x hx; omega)]
   refine zAI (zK (zK (zW (zi (zz (zj ?_))))))
   refine sqI rfl rfl (hnr.trans hn) rfl (zQ rfl rfl (id := 2) rfl Tryz.underlying116 rfl rfl sees0) rfl ?_
   refine sqI rfl rfl (hnr.trans hn) rfl (zY rfl rfl (id := 4) rfl Tryz.underlying121 rfl sz121 rfl rfl sees0) rfl ?_
   refine stepWI ((s_callE (PureAt.vecV (id := 1041) (e := 121) (ds1 := []) (ds2 := [handD (countH l.reg.houses.toNat p)]) (Contains_hand out (countH l.reg.houses.toNat p)) rfl hVo (zAa out) zB1 (by decide)) rfl rfl rfl (nb (hnr.trans hn) rfl) (.d rfl) rfl (.refl _) ⟨rfl, trivial⟩ (fun _ => rfl) (fun _ _ => trivial)).i rfl) fun _ => ?_
   refine sqI rfl rfl (hnr.trans hn) rfl (yF rfl rfl) rfl ?_
   refine zu (zi ?_)
   refine zBq (e := .normal) (ι := {x : Value // VecV x 4 (t4T ((addNew out (countH l.reg.houses.toNat p)).map tup4))}) (fun x => anys [26, 27, 28, 29]) (fun x => [(2, .box b2 116 [.val x.1]), (1041, vecRes 121 x.1 4 (t4T ((addNew out (countH l.reg.houses.toNat p)).map tup4)))]) (fun hJ1 => ?_) ?_
   ·
    refine yg rfl (fun hb1 => ?_) (fun hb1 => ?_)
    ·
     have hat : addNew out (countH l.reg.houses.toNat p) = out ++ [countH l.reg.houses.toNat p] := if_neg (by rw [← zER (by omega) hol y7, notT hb1]; simp)
     refine zj ?_
     refine sqI rfl rfl (hnr.trans hn) rfl (zQ rfl rfl (id := 2) rfl Tryz.underlying116 rfl rfl sees0) rfl ?_
     refine sqI rfl rfl (hnr.trans hn) rfl (zY rfl rfl (id := 4) rfl Tryz.underlying121 rfl sz121 rfl rfl sees0) rfl ?_
     refine stepWI ((zP rfl rfl rfl (nb (hnr.trans hn) rfl) Tryz.underlying116 sz121 zr121 rfl rfl rfl (show _ = [.d (.int .i64 0), .d (.int .i64 0), .d (.int .i64 0), .d (.int .i64 0)] from by kernel_rfl) (by kernel_rfl) rfl (zCX rfl rfl) rfl rfl rfl).i rfl) fun _ => ?_
     refine stepWI ((zAb (id := 1041) rfl rfl rfl (nb (hnr.trans hn) rfl) elt116 zr121 rfl hVo rfl rfl rfl (by simp [chunk, yQ]; omega) (by simp [chunk, yQ]; omega) (fun _ _ => trivial)).i rfl) fun ⟨v29, hV29⟩ => ?_
     have hV3 : VecV v29 4 (t4T ((addNew out (countH l.reg.houses.toNat p)).map tup4)) := by rw [hat, zDr]; exact hV29
     refine stepWI ((s_store1 rfl rfl rfl rfl rfl (vec_one4 hV3) (id := 2) rfl sz116 (Nat.le_of_ble_eq_true rfl) rfl trivial).i rfl) fun _ => ?_
     refine zu ?_
     exact aend_join_on hJ1 ⟨v29, hV3⟩ (zJ _) ⟨.inl rfl, .inl (congrArg (fun z => some (vecRes 121 v29 4 z)) (by rw [hat, zDr]; rfl)), trivial⟩ (by repeat (first | exact kr _ | refine kc rfl ?_)) (by repeat (first | exact kr _ | refine kc rfl ?_))
    ·
     have haf : out = addNew out (countH l.reg.houses.toNat p) := (if_pos (by rw [← zER (by omega) hol y7]; exact notF hb1)).symm
     refine yi ?_
     exact aend_join_on hJ1 ⟨vo, haf ▸ hVo⟩ (zJ _) ⟨.inl rfl, .inl (congrArg (fun z : List (List Int) => some (vecRes 121 vo 4 (t4T (z.map tup4)))) haf), trivial⟩ (by repeat (first | exact kr _ | refine kc rfl ?_)) (by repeat (first | exact kr _ | refine kc rfl ?_))
   ·
    rintro ⟨v2, hV2⟩
    dsimp only
    refine za ?_
    exact y9 ⟨(addNew out (countH l.reg.houses.toNat p), v2), hV2⟩ (by show addNew out _ = _; rw [raw_take hp, ← hA0]) ⟨rfl, rfl, rfl, trivial⟩
 ·
  rintro ⟨⟨out, vo⟩, hVo⟩ D0 hA0
  rw [show (waysX l N).length = (waysL l.reg N).length by simp [waysX], List.take_length] at hA0
  dsimp only at hA0 hVo
  have hraw : out = rawHands l.reg N := hA0
  subst hraw
  have hr256 : (rawHands l.reg N).length ≤ 256 := by (have := zDG (H := l.reg.houses.toNat) (waysL l.reg N) []; unfold rawHands; simp only [List.length_nil] at this; omega)
  refine za (zA (zC (zB ?_)))
  refine sq rfl rfl hn rfl (zQ rfl rfl (id := 2) rfl Tryz.underlying116 rfl rfl sees0) ?_
  refine stepW (s_callE (sortV_eff hVo (by rw [List.length_map]; omega)) rfl rfl rfl (nb hn rfl) (.d rfl) rfl (.refl _) ⟨rfl, trivial⟩ (fun _ => rfl) (fun _ _ => trivial)) fun _ => ?_
  refine zE (zA (zC (zB ?_)))
  refine sq rfl rfl hn rfl (zQ rfl rfl (id := 2) rfl Tryz.underlying116 rfl rfl sees0) ?_
  rw [zCH v hN9]
  have hVs : VecV vo 4 (t4T ((handsL l.reg N).map tup4)) := by rw [← zCH v hN9]; exact vecV_len hVo (by simp only [List.length_map, yQ, sort4, List.length_mergeSort])
  refine kM (g_vec (t := 32) (id := 1041) (n := (handsL l.reg N).length) (es := (handsL l.reg N).map handE) rfl hVs rfl (zAa _) (by rw [List.length_map, yQ, List.length_map]) (by decide) (by have := zAG (k := 4) (rows := (handsL l.reg N).map handE) zB1; rw [List.length_map] at this; exact this)) ?_
  refine stepW (s_store1 rfl rfl rfl rfl rfl rfl (id := 2) rfl sz116 (Nat.le_of_ble_eq_true rfl) rfl trivial) fun _ => ?_
  refine zE (zA (zO ?_))
  exact ret_M (.inl rfl) () (.inr rfl) (yB rfl (.cell rfl (id := 2) rfl Tryz.underlying116 rfl rfl)) trivial rfl
 ·
  exact fun _ _ _ h => h.elim
end Go.Proofs.YtaokpncjemkhcaaGreat
namespace Go.Proofs.YtaokpncjemkhcaaGreat
open Go.RowKit
set_option maxRecDepth 20000
set_option linter.all false
/-- A valid ledger. -/
structure Lok (l : Ldg) : Prop where
  v : Valid l.reg
  g0 : l.reg.sights = []
  d0 : 0 ≤ l.day ∧ l.day ≤ 9
  ln : (l.lends.length : Int) = l.reg.houses
  dl : l.dues.length ≤ 6
  dq : ∀ q ∈ l.dues, (0 ≤ q.frm ∧ q.frm ≤ l.reg.houses - 1) ∧ (0 ≤ q.to ∧ q.to ≤ l.reg.houses - 1) ∧ q.frm ≠ q.to ∧ 1 ≤ q.num ∧ q.num ≤ 4
theorem ku {l : Ldg} (h : checkL l = 0) : Lok l := by
  have v := zBK (check_reg h)
  unfold checkL at h
  rw [show (checkE l.reg != 0) = false by rw [zBQ v]; rfl, cond_false] at h
  cases h1 : decide (6 < (l.dues.length : Int)) with
  | true => rw [h1] at h; cases h
  | false =>
    rw [h1, cond_false] at h
    cases h2 : argL l with
    | true => rw [h2] at h; cases h
    | false =>
      unfold argL at h2
      simp only [Bool.or_eq_false_iff, decide_eq_false_iff_not, Bool.not_eq_false', Bool.and_eq_true, decide_eq_true_eq, bne_eq_false_iff_eq, List.all_eq_true] at h1 h2
      obtain ⟨⟨⟨e1, e2⟩, e3⟩, e4⟩ := h2
      refine ⟨v, List.eq_nil_of_length_eq_zero (by omega), e2, e3, by omega, fun q hq => ?_⟩
      have := e4 q hq
      unfold dueB at this
      rw [yt v.h1 v.h4, yt v.h1 v.h4] at this
      simp only [Bool.and_eq_true, decide_eq_true_eq, bne_iff_ne, ne_eq] at this
      obtain ⟨⟨⟨a, b⟩, c⟩, d⟩ := this
      exact ⟨a, b, c, d⟩
def dayN (l : Ldg) : Nat := l.day.toNat
def houN (l : Ldg) : Nat := l.reg.houses.toNat
theorem Lok.dN {l : Ldg} (L : Lok l) : l.day = (dayN l : Int) ∧ dayN l ≤ 9 := by have := L.d0; unfold dayN; omega
theorem Lok.hN {l : Ldg} (L : Lok l) : l.reg.houses = (houN l : Int) ∧ houN l ≤ 4 ∧ 1 ≤ houN l := by have := L.v.h1; have := L.v.h4; unfold houN; omega
/-- All possible hands of a ledger. -/
def handsR (l : Ldg) : List (List Int) := handsL l.reg (dayN l)
def knownR (l : Ldg) : List (List Int) × Int := if checkL l ≠ 0 then ([], checkL l) else if handsR l = [] then ([], 9) else (handsR l, 0)
theorem kl {l : Ldg} (h : checkL l ≠ 0) : knownR l = ([], checkL l) := if_pos h
theorem zCG {l : Ldg} (h : checkL l = 0) (h2 : handsR l = []) : knownR l = ([], 9) := by unfold knownR; rw [if_neg (by simpa using h), if_pos h2]
theorem zCV {l : Ldg} (h : checkL l = 0) (h2 : handsR l ≠ []) : knownR l = (handsR l, 0) := by unfold knownR; rw [if_neg (by simpa using h), if_neg h2]
theorem handsR_bd {l : Ldg} (L : Lok l) : ∀ h ∈ handsR l, h.length = houN l ∧ ∀ x ∈ h, 0 ≤ x ∧ x ≤ 4 := fun h hh => hands_bd L.v hh
theorem handsR_len {l : Ldg} : (handsR l).length ≤ 5 ^ houN l := by
  unfold handsR handsL refHandsL
  refine Nat.le_trans (List.length_filter_le _ _) ?_
  simp [houN]
theorem handsR_625 {l : Ldg} (L : Lok l) : (handsR l).length ≤ 625 := by
  have h1 := handsR_len (l := l)
  have h2 : 5 ^ houN l ≤ 5 ^ 4 := Nat.pow_le_pow_right (by decide) L.hN.2.1
  omega
theorem zBC {l : Ldg} : (knownR l).1.length ≤ 625 ∧ ∀ h ∈ (knownR l).1, Lok l ∧ h.length = houN l ∧ ∀ x ∈ h, 0 ≤ x ∧ x ≤ 4 := by
  by_cases h : checkL l = 0
  · by_cases h2 : handsR l = []
    · rw [zCG h h2]; exact ⟨by simp, fun _ hh => by cases hh⟩
    · rw [zCV h h2]; exact ⟨handsR_625 (ku h), fun x hx => ⟨ku h, handsR_bd (ku h) x hx⟩⟩
  · rw [kl h]; exact ⟨by simp, fun _ hh => by cases hh⟩
theorem hand_take {h : List Int} {N : Nat} (hl : h.length = N) (hN : N ≤ 4) : (chunk 1 4 (handE h)).take N = h.map intE := by
  show (([[.int .i64 (h.getD 0 0)], [.int .i64 (h.getD 1 0)], [.int .i64 (h.getD 2 0)], [.int .i64 (h.getD 3 0)]] : List (List D))).take N = _
  rw [show ([[.int .i64 (h.getD 0 0)], [.int .i64 (h.getD 1 0)], [.int .i64 (h.getD 2 0)], [.int .i64 (h.getD 3 0)]] : List (List D)) = (hand4 h).map intE from rfl, ← List.map_take, zAZ (by omega), ← hl, List.take_left]
theorem zEC {h : List Int} {N : Nat} (hb : ∀ x ∈ h, 0 ≤ x ∧ x ≤ 4) (i : Nat) : 0 ≤ h.getD i 0 ∧ h.getD i 0 ≤ 4 := by
  by_cases hi : i < h.length
  · rw [List.getD_eq_getElem?_getD, List.getElem?_eq_getElem hi]; exact hb _ (List.getElem_mem hi)
  · rw [List.getD_eq_getElem?_getD, List.getElem?_eq_none (by omega)]; simp
theorem Lok.hok {l : Ldg} (L : Lok l) {h : List Int} (hb : ∀ x ∈ h, 0 ≤ x ∧ x ≤ 4) : Hok l (houN l) h := by
  have h1 := L.hN
  refine ⟨h1.1, h1.2.1, zEC (N := 0) hb, L.dl, fun q hq => ?_, fun q hq => (L.dq q hq).2.2.2, by have := L.ln; omega⟩
  obtain ⟨a, b, c, _⟩ := L.dq q hq
  exact ⟨a.1, by omega, b.1, by omega, c⟩
theorem elt54 : ElT Tryz.prog 54 22 1 24 := zAs Tryz.underlying54 (z := (.slice none 0 0)) (by kernel_rfl) rfl (by decide)
theorem zBG (l : Ldg) : PureAt Tryz.prog 59 [ldgD l] (.tup [handsD (knownR l).1, .int .i64 (knownR l).2]) := by
 refine PureAt.of_awp Tryz.func59 rfl (by kernel_rfl) (Nat.le_of_ble_eq_true rfl) fun Γ hn hl => ?_
 refine zC (zB ?_)
 refine stepW (zr 1 rfl rfl rfl (nb hn rfl) rfl rfl) fun b1 => ?_
 refine sq rfl rfl hn rfl (zF rfl rfl) ?_
 refine sq rfl rfl hn rfl (zF rfl rfl) ?_
 refine zE (zA (zC (zC (zB ?_))))
 refine sq rfl rfl hn rfl (zY rfl rfl (id := 1) rfl Tryz.underlying50 rfl sz50 rfl rfl sees0) ?_
 refine stepW (s_call [] (fun _ => yI l) rfl (zI rfl) rfl (nb hn rfl) (fun _ => trivial) rfl rfl (.refl _)) fun _ => ?_
 refine sq rfl rfl hn rfl (zF rfl rfl) ?_
 refine zE (zA (zC (zB ?_)))
 refine sq rfl rfl hn rfl (zG rfl rfl) ?_
 refine sq rfl rfl hn rfl (yX rfl rfl rfl) ?_
 refine zE (zA ?_)
 refine zS rfl (fun hb0 => ?_) (fun hb0 => ?_)
 ·
  have hc0 : checkL l ≠ 0 := by simpa using hb0
  refine zC (zB ?_)
  refine sq rfl rfl hn rfl (zG rfl rfl) ?_
  refine sq rfl rfl hn rfl (zF rfl rfl) ?_
  refine sq rfl rfl hn rfl (zF rfl rfl) ?_
  refine zE (zA (zO (zL ?_)))
  refine kb (kL (.inl rfl) hl rfl (.tmp rfl) (.tmp rfl)) ?_
  rw [kl hc0]; exact .tup (.cons (.nil 4) (.refl _))
 ·
  have hc0 : checkL l = 0 := by simpa using hb0
  have L := ku hc0
  refine zU (zA (zC (zB ?_)))
  refine sq rfl rfl hn rfl (zY rfl rfl (id := 1) rfl Tryz.underlying50 rfl sz50 rfl rfl sees0) ?_
  refine stepW (s_callE (hands_eff l (dayN l) L.dN.1 L.v L.g0 L.dN.2) rfl rfl rfl (nb hn rfl) (.d rfl) rfl (.refl _) trivial (fun _ => rfl) (fun _ _ => trivial)) fun _ => ?_
  refine sq rfl rfl hn rfl (zF rfl rfl) ?_
  refine zE (zA (zC (zC (zB ?_))))
  refine sq rfl rfl hn rfl (zG rfl rfl) ?_
  refine sq rfl rfl hn rfl (z7 rfl rfl Tryz.underlying116) ?_
  refine sq rfl rfl hn rfl (yG rfl rfl rfl) ?_
  refine zE (zA ?_)
  refine zS rfl (fun hb1 => ?_) (fun hb1 => ?_)
  ·
   have hc1 : handsR l = [] := by unfold handsR; simpa using hb1
   refine zC (zB ?_)
   refine sq rfl rfl hn rfl (zF rfl rfl) ?_
   refine sq rfl rfl hn rfl (zF rfl rfl) ?_
   refine zE (zA (zO (zL ?_)))
   refine kb (kL (.inl rfl) hl rfl (.tmp rfl) (.tmp rfl)) ?_
   rw [zCG hc0 hc1]; exact .tup (.cons (.nil 4) (.refl _))
  ·
   have hc1 : handsR l ≠ [] := fun e => by rw [show handsL l.reg (dayN l) = [] from e] at hb1; cases hb1
   refine zU (zA (zC (zB ?_)))
   refine sq rfl rfl hn rfl (zG rfl rfl) ?_
   refine sq rfl rfl hn rfl (zF rfl rfl) ?_
   refine sq rfl rfl hn rfl (zF rfl rfl) ?_
   refine zE (zA (zO ?_))
   refine zp (kL (.inl rfl) hl rfl (.tmp rfl) (.tmp rfl)) ?_
   rw [zCV hc0 hc1]; rfl
theorem list8_ok (l : Ldg) (h : List Int) (N : Nat) (hN5 : l.reg.houses = (N : Int)) (hN6 : N ≤ 4) (hl5 : h.length = N) : PureAt Tryz.prog 66 [ldgD l, handD h] (ints h) := by
 refine PureAt.of_awp Tryz.func66 rfl (by kernel_rfl) (Nat.le_of_ble_eq_true rfl) fun Γ hn hl => ?_
 refine zC (zB ?_)
 refine stepW (zr 2 rfl rfl rfl (nb hn rfl) rfl rfl) fun b2 => ?_
 refine stepW (zr 3 rfl rfl rfl (nb hn rfl) rfl rfl) fun b3 => ?_
 refine sq rfl rfl hn rfl (zF rfl rfl) ?_
 refine zE (zA (zC ?_))
 refine zx (zn (t := 2) 2 rfl (nb hn rfl) rfl rfl trivial) ?_
 refine zx (zn (t := 3) 3 rfl (nb hn rfl) rfl rfl trivial) ?_
 refine zB ?_
 refine sq rfl rfl hn rfl (zN rfl rfl Tryz.underlying50 rfl sz44 rfl) ?_
 refine sq rfl rfl hn rfl (zN rfl rfl Tryz.underlying44 rfl sz3 rfl) ?_
 refine sq rfl rfl hn rfl (zR rfl rfl Tryz.underlying3 rfl seesF0) ?_
 refine sq rfl rfl hn rfl (q_slicePh (j := N) rfl rfl rfl Tryz.underlying121 sz3 rfl rfl rfl hN5 hN6 (hand_take hl5 hN6)) ?_
 refine stepW (s_callE (yP h (by omega)) rfl rfl rfl (nb hn rfl) (.d rfl) rfl (.refl _) trivial (fun _ => rfl) (fun _ _ => trivial)) fun vc => ?_
 refine sq rfl rfl hn rfl (zF rfl rfl) ?_
 refine zE (zA (zO ?_))
 refine kF (g_row (t := 4) (id := 1021) rfl rfl) ?_
 exact zt (.inl rfl) hl rfl (.tmp rfl)
theorem zDf (l : Ldg) : PureAt Tryz.prog 25 [ldgD l] (.tup [listsD (knownR l).1, .int .i64 (knownR l).2]) := by
 have hkb := zBC (l := l)
 refine PureAt.of_awp Tryz.func25 rfl (by kernel_rfl) (Nat.le_of_ble_eq_true rfl) fun Γ hn hl => ?_
 refine zC (zB ?_)
 refine stepW (zr 1 rfl rfl rfl (nb hn rfl) rfl rfl) fun b1 => ?_
 refine sq rfl rfl hn rfl (zF rfl rfl) ?_
 refine sq rfl rfl hn rfl (zF rfl rfl) ?_
 refine zE (zA (zC (zB ?_)))
 refine sq rfl rfl hn rfl (zY rfl rfl (id := 1) rfl Tryz.underlying50 rfl sz50 rfl rfl sees0) ?_
 refine stepW (s_call [] (fun _ => zBG l) rfl (zI rfl) rfl (nb hn rfl) (fun _ => trivial) rfl rfl (.refl _)) fun _ => ?_
 refine sq rfl rfl hn rfl (zG rfl rfl) ?_
 refine sq rfl rfl hn rfl (zT rfl rfl rfl) ?_
 refine sq rfl rfl hn rfl (zT rfl rfl rfl) ?_
 refine sq rfl rfl hn rfl (zF rfl rfl) ?_
 refine sq rfl rfl hn rfl (zF rfl rfl) ?_
 refine zE (zA (zC (zC (zB ?_))))
 refine sq rfl rfl hn rfl (zG rfl rfl) ?_
 refine sq rfl rfl hn rfl (yX rfl rfl rfl) ?_
 refine zE (zA ?_)
 refine zS rfl (fun hb0 => ?_) (fun hb0 => ?_)
 ·
  have hk0 : (knownR l).1 = [] := by (have hne : (knownR l).2 ≠ 0 := by simpa using hb0); unfold knownR at hne ⊢; split; rfl; (rename_i h1; rw [if_neg h1] at hne; split; rfl; (rename_i h2; rw [if_neg h2] at hne; exact (hne rfl).elim))
  refine zC (zB ?_)
  refine sq rfl rfl hn rfl (zG rfl rfl) ?_
  refine sq rfl rfl hn rfl (zF rfl rfl) ?_
  refine sq rfl rfl hn rfl (zF rfl rfl) ?_
  refine zE (zA (zO (zL ?_)))
  refine kb (kL (.inl rfl) hl rfl (.tmp rfl) (.tmp rfl)) ?_
  rw [hk0]; exact .tup (.cons (.nil 1) (.refl _))
 ·
  have hk0 : (knownR l).2 = 0 := by simpa using hb0
  refine zU (zA (zC (zB ?_)))
  refine sq rfl rfl hn rfl (zF rfl rfl) ?_
  refine zE (zA (zC (zC ?_)))
  refine zx (g_nil (t := 6) (id := 6) 22 1 rfl (nb hn rfl)) ?_
  refine zB ?_
  refine sq rfl rfl hn rfl (zG rfl rfl) ?_
  refine sq rfl rfl hn rfl (z7 rfl rfl Tryz.underlying116) ?_
  refine sq rfl rfl hn rfl (zG rfl rfl) ?_
  refine zE (zA (zV ?_))
  refine awp_loop_on (ι := {x : Nat × Value // x.1 ≤ (knownR l).1.length}) (fun x => (6, true, .val x.1.2) :: (19, true, .d (.int .i64 (x.1.1 : Nat))) :: anys [20, 21, 22, 8, 23, 24, 25, 26, 27, 28, 29]) (fun x => (6, .row x.1.2 22 1 (((knownR l).1.take x.1.1).map fun x => [ints x])) :: gones [8]) (fun x => (knownR l).1.length - x.1.1) ⟨(0, _), Nat.zero_le _⟩ ⟨.inl rfl, .inl rfl, zJ _⟩ ⟨.inl rfl, zX _⟩ ?_
  rintro ⟨⟨i, vv⟩, hi⟩
  dsimp only
  dsimp only at hi
  have htl : ((knownR l).1.take i).length ≤ 625 := by rw [List.length_take]; omega
  refine zC (zB ?_)
  refine sq rfl rfl hn rfl (yJ rfl rfl rfl) ?_
  refine zE (zA (zC ?_))
  refine zS rfl (fun hb1 => ?_) (fun hb1 => ?_)
  ·
   have hil : i < (knownR l).1.length := by simpa using hb1
   obtain ⟨h, hh⟩ := z2 hil
   obtain ⟨L, hhl, hhb⟩ := hkb.2 h (List.mem_of_getElem? hh)
   refine zU (zA (zC (zV (zC (zB ?_)))))
   refine sq rfl rfl hn rfl (q_index (i := i) rfl rfl rfl Tryz.underlying116 sz121 rfl (mget hh)) ?_
   refine sq rfl rfl hn rfl (ze rfl rfl Tryz.underlying121 rfl sz121 rfl rfl seesF0) ?_
   refine stepW (zh 8 rfl rfl rfl (nb hn rfl) zr121 rfl rfl) fun b8 => ?_
   refine stepW (zl rfl rfl rfl rfl rfl rfl (id := 8) rfl sz121 rfl (Nat.le_of_ble_eq_true rfl) rfl trivial) fun _ => ?_
   refine zE (zA (zB ?_))
   refine sq rfl rfl hn rfl (zG rfl rfl) ?_
   refine sq rfl rfl hn rfl (zY rfl rfl (id := 1) rfl Tryz.underlying50 rfl sz50 rfl rfl sees0) ?_
   refine sq rfl rfl hn rfl (zY rfl rfl (id := 8) rfl Tryz.underlying121 rfl sz121 rfl rfl sees0) ?_
   refine stepW (s_call [] (fun _ => list8_ok l h (houN l) L.hN.1 L.hN.2.1 hhl) rfl (zI rfl) rfl (nb hn rfl) (fun _ => trivial) rfl rfl (.refl _)) fun _ => ?_
   refine stepW (zP rfl rfl rfl (nb hn rfl) Tryz.underlying54 sz22 zr22 rfl rfl rfl (show _ = [.d .nil] from by kernel_rfl) (by kernel_rfl) rfl rfl rfl rfl rfl) fun _ => ?_
   refine stepW (s_append (id := 6) rfl rfl rfl (nb hn rfl) elt54 trivial rfl rfl rfl (by simp [chunk]; omega) (by simp [chunk]; omega) (fun b hb => trivial)) fun v28 => ?_
   refine sq rfl rfl hn rfl (zF rfl rfl) ?_
   refine zE (za (zA (zB ?_)))
   refine sq rfl rfl hn rfl (z6 rfl rfl rfl (r := ((i + 1 : Nat) : Int)) (i64w (by omega) (by omega))) ?_
   refine sq rfl rfl hn rfl (zG rfl rfl) ?_
   refine zE ?_
   exact zZ ⟨(i + 1, v28), by omega⟩ ⟨.inl rfl, .inl rfl, zJ _⟩ ⟨.inl (congrArg (fun z => some (Res.row v28 22 1 z)) (by rw [List.take_add_one, hh, List.map_append]; rfl)), zX _⟩ (by simp only; omega) (by repeat (first | exact kr _ | refine kc rfl ?_)) (by repeat (first | exact kr _ | refine kc rfl ?_))
  ·
   obtain rfl : i = (knownR l).1.length := by simp at hb1; omega
   rw [List.take_length]
   refine zw (zK (zK (zW (zA (zC (zB ?_))))))
   refine sq rfl rfl hn rfl (zG rfl rfl) ?_
   refine sq rfl rfl hn rfl (zF rfl rfl) ?_
   refine sq rfl rfl hn rfl (zF rfl rfl) ?_
   refine zE (zA (zO ?_))
   refine kF (g_row (t := 2) (id := 6) rfl rfl) ?_
   refine zp (kL (.inl rfl) hl rfl (.tmp rfl) (.tmp rfl)) ?_
   rw [hk0]
end Go.Proofs.YtaokpncjemkhcaaGreat
namespace Go.Proofs.YtaokpncjemkhcaaGreat
open Go.RowKit
set_option maxRecDepth 20000
set_option linter.all false
theorem zEL {b : Nat} (h : blks [] b) {p : Prop} : p := by
  obtain ⟨i, r, h, _⟩ := h
  simp [lk] at h
theorem zC2 : KLaw Tryz.prog 124 (KV Tryz.prog 124) := KLaw.of (Go.deep_law (m := 3) (by omega) (by kernel_rfl) (by kernel_rfl) (by kernel_rfl))
abbrev KS8 := KV Tryz.prog 124
theorem zBZ {l : Ldg} {h : List Int} : handB l h = true ↔ (∀ x ∈ h, 0 ≤ x ∧ x ≤ 4) ∧ (h.length : Int) = l.reg.houses := by
  unfold handB
  simp only [Bool.and_eq_true, List.all_eq_true, decide_eq_true_eq, beq_iff_eq]
def handOfR (l : Ldg) (h : List Int) : List Int := if handB l h = true then h else []
theorem zBy {l : Ldg} {h : List Int} (hb : handB l h = true) : handOfR l h = h := if_pos hb
theorem handOf_f {l : Ldg} {h : List Int} (hb : handB l h = false) : handOfR l h = [] := if_neg (by rw [hb]; simp)
theorem handOf_bd {l : Ldg} {h : List Int} : ∀ x ∈ handOfR l h, 0 ≤ x ∧ x ≤ 4 := fun x hx => by
  unfold handOfR at hx
  split at hx
  · rename_i hb; exact (zBZ.1 hb).1 x hx
  · cases hx
theorem copy_hand {h : List Int} (hl : h.length ≤ 4) : ((h.map intE).take 4).flatten.map TV.d ++ ([TV.d (.int .i64 0), .d (.int .i64 0), .d (.int .i64 0), .d (.int .i64 0)] : List TV).drop (Nat.min (h.map intE).length 4) = (handE h).map .d := by
  match h, hl with
  | [], _ => rfl
  | [_], _ => rfl
  | [_, _], _ => rfl
  | [_, _, _], _ => rfl
  | [_, _, _, _], _ => rfl
  | _ :: _ :: _ :: _ :: _ :: _, h => simp at h
def bestX (l : Ldg) (h : List Int) : List Int × Int × Int := if checkL l ≠ 0 then ([], 0, checkL l) else if handB l h = true then ((bestR l (houN l) h (-1)).1, (bestR l (houN l) h (-1)).2.1, 0) else ([], 0, 2)
theorem bestX_bad {l : Ldg} {h : List Int} (hc : checkL l ≠ 0) : bestX l h = ([], 0, checkL l) := if_pos hc
theorem bestX_none {l : Ldg} {h : List Int} (hc : checkL l = 0) (hb : handB l h = false) : bestX l h = ([], 0, 2) := by unfold bestX; rw [if_neg (by simpa using hc), if_neg (by rw [hb]; simp)]
theorem bestX_ok {l : Ldg} {h : List Int} (hc : checkL l = 0) (hb : handB l h = true) : bestX l h = ((bestR l (houN l) h (-1)).1, (bestR l (houN l) h (-1)).2.1, 0) := by unfold bestX; rw [if_neg (by simpa using hc), if_pos hb]
def isI8 (l : Ldg) (h d : List Int) (i : Nat) : Bool := handB l h && listedB (l.dues.take i) (d.take i)
theorem zDm {l : Ldg} {h d : List Int} {i : Nat} {q : Due8} {x : Int} (hq : l.dues[i]? = some q) (hx : d[i]? = some x) : isI8 l h d (i + 1) = (isI8 l h d i && (decide (0 ≤ x) && decide (x ≤ q.num))) := by
  have h1 := (List.getElem?_eq_some_iff.1 hq).1
  have h2 := (List.getElem?_eq_some_iff.1 hx).1
  unfold isI8
  rw [List.take_add_one, List.take_add_one, hq, hx, Option.toList_some, Option.toList_some, zAi (by rw [List.length_take, List.length_take]; omega)]
  simp [listedB, Bool.and_assoc]
def proveB (l : Ldg) (h d : List Int) (b : Int) : Bool := decide (checkL l = 0) && (listedB l.dues d && handB l h && decide (owedI l.dues - sumI d ≤ b) && canL l (houN l) h d)
theorem prove_bad {l : Ldg} {h d : List Int} {b : Int} (hc : checkL l ≠ 0) : proveB l h d b = false := by unfold proveB; rw [decide_eq_false hc]; rfl
theorem prove_len {l : Ldg} {h d : List Int} {b : Int} (hl : d.length ≠ l.dues.length) : proveB l h d b = false := by
  unfold proveB
  have : listedB l.dues d = false := by
    cases hh : listedB l.dues d with
    | false => rfl
    | true => exact (hl (zCD hh)).elim
  rw [this]; simp
theorem prove_eq {l : Ldg} {h d : List Int} {b x : Int} (hc : checkL l = 0) (hx : (handB l h && listedB l.dues d) = true → x = owedI l.dues - sumI d) : (((handB l h && listedB l.dues d) && decide (x ≤ b)) && canL l (houN l) (handOfR l h) d) = proveB l h d b := by
  unfold proveB
  rw [decide_eq_true hc, Bool.true_and]
  cases h1 : handB l h with
  | false => simp
  | true =>
    cases h2 : listedB l.dues d with
    | false => simp
    | true => rw [zBy h1, hx (by rw [h1, h2]; rfl)]
theorem zBV : ∀ {qs : List Due8} {d : List Int}, (∀ q ∈ qs, 1 ≤ q.num ∧ q.num ≤ 4) → listedB qs d = true → ∀ x ∈ d, 0 ≤ x ∧ x ≤ 4
  | [], [], _, _ => fun x hx => by cases hx
  | [], _ :: _, _, h => by cases h
  | _ :: _, [], _, h => by cases h
  | q :: qs, y :: ys, hq, h => fun x hx => by
    simp only [listedB, Bool.and_eq_true, decide_eq_true_eq] at h
    rcases List.mem_cons.1 hx with rfl | hx
    · have := hq q List.mem_cons_self; omega
    · exact zBV (fun q' hq' => hq q' (List.mem_cons_of_mem _ hq')) h.2 x hx
theorem zEQ : ∀ {xs : List Int}, (∀ y ∈ xs, 0 ≤ y ∧ y ≤ 4) → sumI xs ≤ 4 * xs.length
  | [], _ => by simp [sumI]
  | y :: ys, hy => by
    have h1 := hy y List.mem_cons_self
    have h2 := zEQ (xs := ys) fun z hz => hy z (List.mem_cons_of_mem _ hz)
    simp only [sumI, List.length_cons]; omega
/-- What must be bought in with a hand. -/
def boughtR (l : Ldg) (h : List Int) : Int := (bestR l (houN l) h (-1)).2.1
def buyStep (l : Ldg) (p : Int × Int) (h : List Int) : Int × Int := (min p.1 (boughtR l h), max p.2 (boughtR l h))
def buyTo (l : Ldg) (i : Nat) : Int × Int := ((knownR l).1.take i).foldl (buyStep l) (owedI l.dues, 0)
def buyX (l : Ldg) : (Int × Int) × Int := if (knownR l).2 ≠ 0 then ((0, 0), (knownR l).2) else (buyR (owedI l.dues) ((knownR l).1.map (boughtR l)), 0)
theorem buy_to {l : Ldg} : buyTo l (knownR l).1.length = buyR (owedI l.dues) ((knownR l).1.map (boughtR l)) := by
  unfold buyTo buyR
  rw [List.take_length, List.foldl_map]; rfl
theorem kw {l : Ldg} {i : Nat} {h : List Int} (hh : (knownR l).1[i]? = some h) : buyTo l (i + 1) = (minL (buyTo l i).1 [boughtR l h], max (buyTo l i).2 (boughtR l h)) := by
  unfold buyTo
  rw [List.take_add_one, hh, List.foldl_append]
  simp [buyStep, minL]
theorem sz62 : Sz Tryz.prog 62 2 := (by kernel_rfl : (Tryz.prog.info? 62).map (·.size) = some 2)
theorem zr62 : (Tryz.prog.info? 62).map (·.zero) = some (some (.agg #[(.int .i64 0), (.int .i64 0)])) := by kernel_rfl
theorem zr156 : (Tryz.prog.info? 156).map (·.zero) = some (some (.agg #[(.int .i64 0), (.slice none 0 0), (.slice none 0 0), (.slice none 0 0), (.int .i64 0), (.slice none 0 0), (.slice none 0 0), (.map none)])) := by kernel_rfl
theorem bt62 : BT Tryz.prog 62 (.agg #[(.int .i64 0), (.int .i64 0)]) (fun i => ([(0, 1), (1, 1)] : List (Nat × Nat))[i]?) := yO Tryz.underlying62 zr62 (by kernel_rfl)
theorem bt156 : BT Tryz.prog 156 (.agg #[(.int .i64 0), (.slice none 0 0), (.slice none 0 0), (.slice none 0 0), (.int .i64 0), (.slice none 0 0), (.slice none 0 0), (.map none)]) (fun i => ([(0, 7), (7, 1)] : List (Nat × Nat))[i]?) := yO Tryz.underlying156 zr156 (by kernel_rfl)
theorem zC1 (l : Ldg) (h : List Int) (hN5 : l.reg.houses ≤ 4) : PureAt Tryz.prog 80 [ldgD l, ints h] (.tup [handD (handOfR l h), .bool (handB l h)]) := by
 refine PureAt.of_awp Tryz.func80 rfl (by kernel_rfl) (Nat.le_of_ble_eq_true rfl) fun Γ hn hl => ?_
 refine zC (zB ?_)
 refine stepW (zr 2 rfl rfl rfl (nb hn rfl) rfl rfl) fun b2 => ?_
 refine stepW (zh 4 rfl rfl rfl (nb hn rfl) zr121 rfl rfl) fun b4 => ?_
 refine sq rfl rfl hn rfl (zF rfl rfl) ?_
 refine zE (zA (zC (zC (zB ?_))))
 refine sq rfl rfl hn rfl (zG rfl rfl) ?_
 refine sq rfl rfl hn rfl (z7 rfl rfl Tryz.underlying22) ?_
 refine sq rfl rfl hn rfl (zH rfl rfl Tryz.underlying50 rfl sz44) ?_
 refine sq rfl rfl hn rfl (zH rfl rfl Tryz.underlying44 rfl sz3) ?_
 refine sq rfl rfl hn rfl (zQ rfl rfl (id := 2) rfl Tryz.underlying3 rfl rfl sees0) ?_
 refine sq rfl rfl hn rfl (yX rfl rfl rfl) ?_
 refine sq rfl rfl hn rfl (zG rfl rfl) ?_
 refine stepG [] (zD rfl rfl rfl) rfl (nb hn rfl) (fun hc => trivial) (fun hc => zG rfl rfl) ?_
 refine stepW (s_call [(13, _)] (fun hc => all8_int h _ 108 [] [] (fun x _ => handOf1_ok x)) rfl (zD rfl rfl rfl) rfl (nb hn rfl) (fun hc => ⟨⟨_, rfl, hc⟩, trivial⟩) rfl rfl (.refl _)) fun _ => ?_
 refine stepG [(14, _)] (zD rfl rfl rfl) rfl (nb hn rfl) (fun hc => ⟨⟨_, rfl, hc⟩, trivial⟩) (fun hc => yF rfl rfl) ?_
 refine sq rfl rfl hn rfl (q_or rfl rfl rfl (by intro hB; first | (rw [hB]; rfl) | (rw [hB, hc]; rfl) | simp_all)) ?_
 refine zE (zA ?_)
 refine zS rfl (fun hb0 => ?_) (fun hb0 => ?_)
 ·
  have hbf : handB l h = false := by unfold handB; simp only [List.length_map] at hb0; rw [Bool.eq_false_iff]; intro hc; simp only [Bool.and_eq_true, beq_iff_eq] at hc; rw [hc.1, show ((h.length : Int) != l.reg.houses) = false by simpa using hc.2] at hb0; cases hb0
  refine zC (zB ?_)
  refine sq rfl rfl hn rfl (zY rfl rfl (id := 4) rfl Tryz.underlying121 rfl sz121 rfl rfl sees0) ?_
  refine stepW (zl rfl rfl rfl rfl rfl rfl (id := 4) rfl sz121 rfl (Nat.le_of_ble_eq_true rfl) rfl trivial) fun _ => ?_
  refine sq rfl rfl hn rfl (zF rfl rfl) ?_
  refine zE (zA (zO (zL ?_)))
  refine zp (kL (.inl rfl) hl rfl (.cellA rfl (id := 4) rfl Tryz.underlying121 rfl sz121 rfl rfl) (.tmp rfl)) ?_
  rw [handOf_f hbf, hbf]; rfl
 ·
  have hbt : handB l h = true := by unfold handB; simp only [List.length_map, Bool.or_eq_false_iff] at hb0; rw [notF hb0.2, Bool.true_and]; have := hb0.1; simpa using this
  have hhl : h.length ≤ 4 := by have := (zBZ.1 hbt).2; omega
  refine zU (zA (zC (zB ?_)))
  refine sq rfl rfl hn rfl (zDR rfl rfl Tryz.underlying121 sz3) ?_
  refine sq rfl rfl hn rfl (zG rfl rfl) ?_
  refine stepW (s_copy rfl rfl rfl rfl (id := 4) rfl Tryz.underlying22 sz3 (Nat.le_of_ble_eq_true rfl) (copy_hand hhl) trivial rfl (nb hn rfl)) fun _ => ?_
  refine zE (zA (zC (zB ?_)))
  refine sq rfl rfl hn rfl (zY rfl rfl (id := 4) rfl Tryz.underlying121 rfl sz121 rfl rfl sees0) ?_
  refine stepW (zl rfl rfl rfl rfl rfl rfl (id := 4) rfl sz121 rfl (Nat.le_of_ble_eq_true rfl) rfl trivial) fun _ => ?_
  refine sq rfl rfl hn rfl (zF rfl rfl) ?_
  refine zE (zA (zO ?_))
  refine zp (kL (.inl rfl) hl rfl (.cellA rfl (id := 4) rfl Tryz.underlying121 rfl sz121 rfl rfl) (.tmp rfl)) ?_
  rw [zBy hbt, hbt]
theorem zBc (l : Ldg) : EffAt Tryz.prog 60 [.d (ldgD l)] [] (X := Nat) (fun b => .d (.ptr (workC8 l b))) (fun b => [(1050, mapRes KS8 b fun _ _ => False)]) := by
 refine EffAt.of_awp Tryz.func60 rfl (by kernel_rfl) rfl fun Γ hn => ?_
 refine zC (zB ?_)
 refine stepW (zr 1 rfl rfl rfl (nb hn rfl) rfl rfl) fun b1 => ?_
 refine sq rfl rfl hn rfl (zF rfl rfl) ?_
 refine zE (zA (zC (zB ?_)))
 refine sq rfl rfl hn rfl (zY rfl rfl (id := 1) rfl Tryz.underlying50 rfl sz50 rfl rfl sees0) ?_
 refine stepW (zBX (KS8) 1050 rfl rfl rfl (nb hn rfl)) fun b4 => ?_
 refine sq rfl rfl hn rfl (zg rfl bt156 rfl rfl rfl rfl rfl) ?_
 refine stepW (zr 6 rfl rfl rfl (nb hn rfl) rfl rfl) fun b6 => ?_
 refine sq rfl rfl hn rfl (zF rfl rfl) ?_
 refine zE (zA (zO ?_))
 refine kF (zn (t := 2) 6 rfl (nb hn rfl) rfl rfl trivial) ?_
 exact ret_E (.inl rfl) b4 (yB rfl (.tmp rfl)) ⟨rfl, trivial⟩
theorem zBv (l : Ldg) (h : List Int) : PureAt Tryz.prog 41 [ldgD l, ints h] (.tup [ints (bestX l h).1, .int .i64 (bestX l h).2.1, .int .i64 (bestX l h).2.2]) := by
 refine PureAt.of_awp Tryz.func41 rfl (by kernel_rfl) (Nat.le_of_ble_eq_true rfl) fun Γ hn hl => ?_
 refine zC (zB ?_)
 refine stepW (zr 2 rfl rfl rfl (nb hn rfl) rfl rfl) fun b2 => ?_
 refine sq rfl rfl hn rfl (zF rfl rfl) ?_
 refine sq rfl rfl hn rfl (zF rfl rfl) ?_
 refine sq rfl rfl hn rfl (zF rfl rfl) ?_
 refine zE (zA (zC (zC ?_)))
 refine zx (zn (t := 2) 2 rfl (nb hn rfl) rfl rfl trivial) ?_
 refine zB ?_
 refine sq rfl rfl hn rfl (ze rfl rfl Tryz.underlying50 rfl sz50 rfl rfl seesF0) ?_
 refine stepW (s_call [] (fun _ => yI l) rfl (zI rfl) rfl (nb hn rfl) (fun _ => trivial) rfl rfl (.refl _)) fun _ => ?_
 refine sq rfl rfl hn rfl (zF rfl rfl) ?_
 refine zE (zA (zC (zB ?_)))
 refine sq rfl rfl hn rfl (zG rfl rfl) ?_
 refine sq rfl rfl hn rfl (yX rfl rfl rfl) ?_
 refine zE (zA ?_)
 refine zS rfl (fun hb0 => ?_) (fun hb0 => ?_)
 ·
  have hc0 : checkL l ≠ 0 := by simpa using hb0
  refine zC (zB ?_)
  refine sq rfl rfl hn rfl (zG rfl rfl) ?_
  refine sq rfl rfl hn rfl (zF rfl rfl) ?_
  refine sq rfl rfl hn rfl (zF rfl rfl) ?_
  refine sq rfl rfl hn rfl (zF rfl rfl) ?_
  refine zE (zA (zO (zL ?_)))
  refine kb (zDb (.inl rfl) hl rfl (.tmp rfl) (.tmp rfl) (.tmp rfl)) ?_
  rw [bestX_bad hc0]; exact .tup (.cons (.nil 1) (.refl _))
 ·
  have hc0 : checkL l = 0 := by simpa using hb0
  have L := ku hc0
  have hh4 := L.v.h4
  refine zU (zA (zC (zB ?_)))
  refine sq rfl rfl hn rfl (ze rfl rfl Tryz.underlying50 rfl sz50 rfl rfl seesF0) ?_
  refine sq rfl rfl hn rfl (zG rfl rfl) ?_
  refine stepW (s_call [] (fun _ => zC1 l h hh4) rfl (zI rfl) rfl (nb hn rfl) (fun _ => trivial) rfl rfl (.refl _)) fun _ => ?_
  refine sq rfl rfl hn rfl (zG rfl rfl) ?_
  refine sq rfl rfl hn rfl (zT rfl rfl rfl) ?_
  refine sq rfl rfl hn rfl (zT rfl rfl rfl) ?_
  refine stepW (zh 8 rfl rfl rfl (nb hn rfl) zr121 rfl rfl) fun b8 => ?_
  refine stepW (zl rfl rfl rfl rfl rfl rfl (id := 8) rfl sz121 rfl (Nat.le_of_ble_eq_true rfl) rfl trivial) fun _ => ?_
  refine sq rfl rfl hn rfl (zF rfl rfl) ?_
  refine zE (zA (zC (zC (zB ?_))))
  refine sq rfl rfl hn rfl (zG rfl rfl) ?_
  refine sq rfl rfl hn rfl (yF rfl rfl) ?_
  refine zE (zA ?_)
  refine zS rfl (fun hb1 => ?_) (fun hb1 => ?_)
  ·
   have hbf : handB l h = false := notT hb1
   refine zC (zB ?_)
   refine sq rfl rfl hn rfl (zF rfl rfl) ?_
   refine sq rfl rfl hn rfl (zF rfl rfl) ?_
   refine sq rfl rfl hn rfl (zF rfl rfl) ?_
   refine zE (zA (zO (zL ?_)))
   refine kb (zDb (.inl rfl) hl rfl (.tmp rfl) (.tmp rfl) (.tmp rfl)) ?_
   rw [bestX_none hc0 hbf]; exact .tup (.cons (.nil 1) (.refl _))
  ·
   have hbt : handB l h = true := notF hb1
   rw [zBy hbt]
   refine zU (zA (zC ?_))
   refine yC (W := fun b => b ≠ b8) fmo ?_
   refine d1q (i := 0) rfl (by kernel_rfl) (fun _ _ _ _ h => h) rfl rfl hn rfl (ze rfl rfl Tryz.underlying50 rfl sz50 rfl rfl seesFA) ?_
   refine d1q (i := 2) rfl (by kernel_rfl) (fun _ _ _ _ h => h) rfl rfl hn rfl (zY rfl rfl (id := 8) rfl Tryz.underlying121 rfl sz121 rfl rfl (seesA (by simp))) ?_
   refine zM ?_
   refine zk (i := 1) (by kernel_rfl) rfl (s_callE (zBc l) rfl rfl rfl (nb hn rfl) (.d rfl) rfl (.refl _) trivial (fun _ => rfl) (fun _ h => zEL h)) fun bw => ?_
   refine d2_of_d1 (zM ?_)
   refine zk (i := 3) (by kernel_rfl) rfl (s_call [] (fun _ => zCW l (houN l) h (L.hok (zBZ.1 hbt).1) (-1) bw) rfl (zI rfl) rfl (nb hn rfl) (fun _ => trivial) rfl rfl (.refl _)) fun _ => ?_
   refine d2_of_d1 ?_
   refine d1q (i := 4) rfl (by kernel_rfl) (fun _ _ _ _ h => h) rfl rfl hn rfl (zG rfl rfl) ?_
   refine d1q (i := 5) rfl (by kernel_rfl) (fun _ _ _ _ h => h) rfl rfl hn rfl (zT rfl rfl rfl) ?_
   refine d1q (i := 6) rfl (by kernel_rfl) (fun _ _ _ _ h => h) rfl rfl hn rfl (zT rfl rfl rfl) ?_
   refine d1q (i := 7) rfl (by kernel_rfl) (fun _ _ _ _ h => h) rfl rfl hn rfl (zT rfl rfl rfl) ?_
   refine d1q (i := 8) rfl (by kernel_rfl) (fun _ _ _ _ h => h) rfl rfl hn rfl (zF rfl rfl) ?_
   refine d1q (i := 9) rfl (by kernel_rfl) (fun _ _ _ _ h => h) rfl rfl hn rfl (zF rfl rfl) ?_
   refine zM ?_
   refine zv (by kernel_rfl) ?_
   refine zA (zC (zB ?_))
   refine sq rfl rfl hn rfl (zG rfl rfl) ?_
   refine sq rfl rfl hn rfl (zG rfl rfl) ?_
   refine sq rfl rfl hn rfl (zF rfl rfl) ?_
   refine sq rfl rfl hn rfl (zF rfl rfl) ?_
   refine sq rfl rfl hn rfl (zF rfl rfl) ?_
   refine zE (zA (zO ?_))
   refine zp (zDb (.inl rfl) hl rfl (.tmp rfl) (.tmp rfl) (.tmp rfl)) ?_
   rw [bestX_ok hc0 hbt]
theorem zAJ (l : Ldg) (h d : List Int) (b : Int) : PureAt Tryz.prog 45 [ldgD l, ints h, ints d, .int .i64 b] (.bool (proveB l h d b)) := by
 refine PureAt.of_awp Tryz.func45 rfl (by kernel_rfl) (Nat.le_of_ble_eq_true rfl) fun Γ hn hl => ?_
 refine zC (zB ?_)
 refine stepW (zr 4 rfl rfl rfl (nb hn rfl) rfl rfl) fun b4 => ?_
 refine sq rfl rfl hn rfl (zF rfl rfl) ?_
 refine zE (zA (zC (zC ?_)))
 refine zx (zn (t := 4) 4 rfl (nb hn rfl) rfl rfl trivial) ?_
 refine zB ?_
 refine sq rfl rfl hn rfl (ze rfl rfl Tryz.underlying50 rfl sz50 rfl rfl seesF0) ?_
 refine stepW (s_call [] (fun _ => yI l) rfl (zI rfl) rfl (nb hn rfl) (fun _ => trivial) rfl rfl (.refl _)) fun _ => ?_
 refine sq rfl rfl hn rfl (yX rfl rfl rfl) ?_
 refine sq rfl rfl hn rfl (zG rfl rfl) ?_
 refine stepG [] (zD rfl rfl rfl) rfl (nb hn rfl) (fun hc => trivial) (fun hc => zG rfl rfl) ?_
 refine stepG [(18, _)] (zD rfl rfl rfl) rfl (nb hn rfl) (fun hc => ⟨⟨_, rfl, hc⟩, trivial⟩) (fun hc => z7 rfl rfl Tryz.underlying22) ?_
 refine stepG [] (zD rfl rfl rfl) rfl (nb hn rfl) (fun hc => trivial) (fun hc => zN rfl rfl Tryz.underlying50 rfl sz48 rfl) ?_
 refine stepG [(20, _)] (zD rfl rfl rfl) rfl (nb hn rfl) (fun hc => ⟨⟨_, rfl, hc⟩, trivial⟩) (fun hc => zR rfl rfl Tryz.underlying48 rfl seesF0) ?_
 refine stepG [(21, _)] (zD rfl rfl rfl) rfl (nb hn rfl) (fun hc => ⟨⟨_, rfl, hc⟩, trivial⟩) (fun hc => z7 rfl rfl Tryz.underlying48) ?_
 refine stepG [(19, _), (22, _)] (zD rfl rfl rfl) rfl (nb hn rfl) (fun hc => ⟨⟨_, rfl, hc⟩, ⟨_, rfl, hc⟩, trivial⟩) (fun hc => yX rfl rfl rfl) ?_
 refine sq rfl rfl hn rfl (q_or rfl rfl rfl (by intro hB; first | (rw [hB]; rfl) | (rw [hB, hc]; rfl) | simp_all)) ?_
 refine zE (zA ?_)
 refine zS rfl (fun hb0 => ?_) (fun hb0 => ?_)
 ·
  have hpf : proveB l h d b = false := by simp only [List.length_map, Bool.or_eq_true, bne_iff_ne, ne_eq] at hb0; rcases hb0 with h1 | h1; exact prove_bad h1; exact prove_len (by omega)
  rw [hpf]
  refine zC (zB ?_)
  refine sq rfl rfl hn rfl (zF rfl rfl) ?_
  refine zE (zA (zO (zL ?_)))
  exact zt (.inl rfl) hl rfl (.tmp rfl)
 ·
  have hc0 : checkL l = 0 ∧ d.length = l.dues.length := by simp only [List.length_map, Bool.or_eq_false_iff, bne_eq_false_iff_eq] at hb0; omega
  obtain ⟨hc0, hlen⟩ := hc0
  have L := ku hc0
  have hh4 := L.v.h4; have hdl := L.dl
  have H := L.hok (h := handOfR l h) handOf_bd
  have how := zBx (qs := l.dues) fun q hq => by have := H.hq6 q hq; omega
  have hdb : ∀ {p : Bool}, (true && (((handB l h && listedB l.dues d) && p) == true)) = true → ∀ x ∈ d, 0 ≤ x ∧ x ≤ 4 := fun hc => zBV (fun q hq => H.hq6 q hq) (by simp at hc; exact hc.1.2)
  refine zU (zA (zC (zB ?_)))
  refine sq rfl rfl hn rfl (ze rfl rfl Tryz.underlying50 rfl sz50 rfl rfl seesF0) ?_
  refine sq rfl rfl hn rfl (zG rfl rfl) ?_
  refine stepW (s_call [] (fun _ => zC1 l h hh4) rfl (zI rfl) rfl (nb hn rfl) (fun _ => trivial) rfl rfl (.refl _)) fun _ => ?_
  refine sq rfl rfl hn rfl (zG rfl rfl) ?_
  refine sq rfl rfl hn rfl (zT rfl rfl rfl) ?_
  refine sq rfl rfl hn rfl (zT rfl rfl rfl) ?_
  refine stepW (zh 9 rfl rfl rfl (nb hn rfl) zr121 rfl rfl) fun b9 => ?_
  refine stepW (zl rfl rfl rfl rfl rfl rfl (id := 9) rfl sz121 rfl (Nat.le_of_ble_eq_true rfl) rfl trivial) fun _ => ?_
  refine sq rfl rfl hn rfl (zF rfl rfl) ?_
  refine zE (zA (zC (zB ?_)))
  refine sq rfl rfl hn rfl (ze rfl rfl Tryz.underlying50 rfl sz50 rfl rfl seesF0) ?_
  refine stepW (s_call [] (fun _ => zCQ l (fun q hq => by have := H.hq6 q hq; omega) (by omega)) rfl (zI rfl) rfl (nb hn rfl) (fun _ => trivial) rfl rfl (.refl _)) fun _ => ?_
  refine sq rfl rfl hn rfl (zF rfl rfl) ?_
  refine zE (zA (zC (zC (zB ?_))))
  refine sq rfl rfl hn rfl (zG rfl rfl) ?_
  refine sq rfl rfl hn rfl (z7 rfl rfl Tryz.underlying22) ?_
  refine sq rfl rfl hn rfl (zG rfl rfl) ?_
  refine zE (zA (zV ?_))
  refine awp_loop_on (ι := {x : Nat × Int // x.1 ≤ d.length ∧ (isI8 l h d x.1 = true → x.2 = owedI l.dues - sumI (d.take x.1))}) (fun x => (10, true, .d (.bool (isI8 l h d x.1.1))) :: (11, true, .d (.int .i64 x.1.2)) :: (35, true, .d (.int .i64 (x.1.1 : Nat))) :: anys [36, 37, 38, 39, 12, 13, 40, 41, 42, 43, 44, 45, 46, 47, 48, 49, 50, 51, 52, 53, 54]) (fun x => []) (fun x => d.length - x.1.1) ⟨(0, owedI l.dues), Nat.zero_le _, fun _ => by simp [sumI]⟩ ⟨.inl (congrArg (fun z : Bool => some (true, TV.d (.bool z))) (by unfold isI8; simp [listedB] : handB l h = isI8 l h d 0)), .inl rfl, .inl rfl, zJ _⟩ trivial ?_
  rintro ⟨⟨i, lf⟩, hi, hlf⟩
  dsimp only
  dsimp only at hi hlf
  refine zC (zB ?_)
  refine sq rfl rfl hn rfl (yJ rfl rfl rfl) ?_
  refine zE (zA (zC ?_))
  refine zS rfl (fun hb1 => ?_) (fun hb1 => ?_)
  ·
   have hil : i < d.length := by simpa using hb1
   obtain ⟨x, hx⟩ := z2 hil
   obtain ⟨q, hq⟩ := z2 (show i < l.dues.length by omega)
   have hqn := H.hq6 q (List.mem_of_getElem? hq)
   have hsb : isI8 l h d i = true → -24 ≤ sumI (d.take i) ∧ sumI (d.take i) ≤ 24 := fun hc => by (have hls : listedB (l.dues.take i) (d.take i) = true := by unfold isI8 at hc; simp at hc; exact hc.2); have h1 := zBV (qs := l.dues.take i) (fun q hq => H.hq6 q (List.mem_of_mem_take hq)) hls; have h2 := zB2 hls; have h5 := zEQ h1; have h6 : (d.take i).length ≤ 6 := (by rw [List.length_take]; omega); omega
   have hlf2 : isI8 l h d (i + 1) = true → IntKind.i64.wrap (lf - x) = owedI l.dues - sumI (d.take (i + 1)) := fun hc => by (rw [zDm hq hx] at hc; simp only [Bool.and_eq_true, decide_eq_true_eq] at hc; have e1 := hlf hc.1; have e2 := hsb hc.1; rw [sum_take hx, e1]; exact i64w (by omega) (by omega))
   refine zU (zA (zC (zV (zC (zB ?_)))))
   refine sq rfl rfl hn rfl (zG rfl rfl) ?_
   refine sq rfl rfl hn rfl (q_index (i := i) rfl rfl rfl Tryz.underlying22 sz3 rfl (mget hx)) ?_
   refine sq rfl rfl hn rfl (zR rfl rfl Tryz.underlying3 rfl seesF0) ?_
   refine sq rfl rfl hn rfl (zF rfl rfl) ?_
   refine sq rfl rfl hn rfl (zF rfl rfl) ?_
   refine zE (zA (zC (zB ?_)))
   refine sq rfl rfl hn rfl (zG rfl rfl) ?_
   refine sq rfl rfl hn rfl (zG rfl rfl) ?_
   refine stepG [] (zD rfl rfl rfl) rfl (nb hn rfl) (fun hc => trivial) (fun hc => zG rfl rfl) ?_
   refine stepG [] (zD rfl rfl rfl) rfl (nb hn rfl) (fun hc => trivial) (fun hc => zN rfl rfl Tryz.underlying50 rfl sz48 rfl) ?_
   refine stepG [(43, _)] (zD rfl rfl rfl) rfl (nb hn rfl) (fun hc => ⟨⟨_, rfl, hc⟩, trivial⟩) (fun hc => zR rfl rfl Tryz.underlying48 rfl seesF0) ?_
   refine stepG [] (zD rfl rfl rfl) rfl (nb hn rfl) (fun hc => trivial) (fun hc => zG rfl rfl) ?_
   refine stepG [(44, _), (45, _)] (zD rfl rfl rfl) rfl (nb hn rfl) (fun hc => ⟨⟨_, rfl, hc⟩, ⟨_, rfl, hc⟩, trivial⟩) (fun hc => q_index (i := i) rfl rfl rfl Tryz.underlying48 sz88 rfl (mget hq)) ?_
   refine stepG [(46, _)] (zD rfl rfl rfl) rfl (nb hn rfl) (fun hc => ⟨⟨_, rfl, hc⟩, trivial⟩) (fun hc => zN rfl rfl Tryz.underlying88 rfl sz3 rfl) ?_
   refine stepG [(47, _)] (zD rfl rfl rfl) rfl (nb hn rfl) (fun hc => ⟨⟨_, rfl, hc⟩, trivial⟩) (fun hc => zR rfl rfl Tryz.underlying3 rfl seesF0) ?_
   refine stepW (s_call [(42, _), (48, _)] (fun hc => kO _ _ _) rfl (zD rfl rfl rfl) rfl (nb hn rfl) (fun hc => ⟨⟨_, rfl, hc⟩, ⟨_, rfl, hc⟩, trivial⟩) rfl rfl (.refl _)) fun _ => ?_
   refine sq rfl rfl hn rfl (zy rfl rfl rfl (by intro hB; first | (rw [hB]; rfl) | (rw [hB, hc]; rfl) | simp_all)) ?_
   refine sq rfl rfl hn rfl (zF rfl rfl) ?_
   refine zE (zA (zB ?_))
   refine sq rfl rfl hn rfl (zG rfl rfl) ?_
   refine sq rfl rfl hn rfl (zG rfl rfl) ?_
   refine sq rfl rfl hn rfl (zAl rfl rfl rfl (r := IntKind.i64.wrap (lf - x)) rfl) ?_
   refine sq rfl rfl hn rfl (zF rfl rfl) ?_
   refine zE (za (zA (zB ?_)))
   refine sq rfl rfl hn rfl (z6 rfl rfl rfl (r := ((i + 1 : Nat) : Int)) (i64w (by omega) (by omega))) ?_
   refine sq rfl rfl hn rfl (zG rfl rfl) ?_
   refine zE ?_
   exact zZ ⟨(i + 1, IntKind.i64.wrap (lf - x)), by omega, hlf2⟩ ⟨.inl (congrArg (fun z : Bool => some (true, TV.d (.bool z))) (zDm hq hx).symm), .inl rfl, .inl rfl, zJ _⟩ trivial (by simp only; omega) (by repeat (first | exact kr _ | refine kc rfl ?_)) (by repeat (first | exact kr _ | refine kc rfl ?_))
  ·
   obtain rfl : i = d.length := by simp at hb1; omega
   have hie : isI8 l h d d.length = (handB l h && listedB l.dues d) := by unfold isI8; rw [List.take_length, hlen, List.take_length]
   rw [hie, List.take_length] at hlf
   rw [hie]
   refine zw (zK (zK (zW (zA (zC (zB ?_))))))
   refine sq rfl rfl hn rfl (zG rfl rfl) ?_
   refine sq rfl rfl hn rfl (zG rfl rfl) ?_
   refine stepG [] (zD rfl rfl rfl) rfl (nb hn rfl) (fun hc => trivial) (fun hc => zG rfl rfl) ?_
   refine stepG [] (zD rfl rfl rfl) rfl (nb hn rfl) (fun hc => trivial) (fun hc => zG rfl rfl) ?_
   refine stepG [(57, _), (58, _)] (zD rfl rfl rfl) rfl (nb hn rfl) (fun hc => ⟨⟨_, rfl, hc⟩, ⟨_, rfl, hc⟩, trivial⟩) (fun hc => zBp rfl rfl rfl) ?_
   refine sq rfl rfl hn rfl (zy rfl rfl rfl (by intro hB; first | (rw [hB]; rfl) | (rw [hB, hc]; rfl) | simp_all)) ?_
   refine sq rfl rfl hn rfl (zG rfl rfl) ?_
   refine stepG [] (zD rfl rfl rfl) rfl (nb hn rfl) (fun hc => trivial) (fun hc => ze rfl rfl Tryz.underlying50 rfl sz50 rfl rfl seesF0) ?_
   refine stepG [] (zD rfl rfl rfl) rfl (nb hn rfl) (fun hc => trivial) (fun hc => zY rfl rfl (id := 9) rfl Tryz.underlying121 rfl sz121 rfl rfl sees0) ?_
   refine stepG [] (zD rfl rfl rfl) rfl (nb hn rfl) (fun hc => trivial) (fun hc => zG rfl rfl) ?_
   refine stepW (s_call [(62, _), (63, _), (64, _)] (fun hc => zD3 H d (hdb hc) hlen) rfl (zD rfl rfl rfl) rfl (nb hn rfl) (fun hc => ⟨⟨_, rfl, hc⟩, ⟨_, rfl, hc⟩, ⟨_, rfl, hc⟩, trivial⟩) rfl rfl (.refl _)) fun _ => ?_
   refine sq rfl rfl hn rfl (zy rfl rfl rfl (by intro hB; first | (rw [hB]; rfl) | (rw [hB, hc]; rfl) | simp_all)) ?_
   refine sq rfl rfl hn rfl (zF rfl rfl) ?_
   refine zE (zA (zO ?_))
   refine zp (zt (.inl rfl) hl rfl (.tmp rfl)) ?_
   rw [prove_eq hc0 hlf]
theorem BuyIns_ok (l : Ldg) : PureAt Tryz.prog 31 [ldgD l] (.tup [.agg [.int .i64 (buyX l).1.1, .int .i64 (buyX l).1.2], .int .i64 (buyX l).2]) := by
 have hkb := zBC (l := l)
 refine PureAt.of_awp Tryz.func31 rfl (by kernel_rfl) (Nat.le_of_ble_eq_true rfl) fun Γ hn hl => ?_
 refine zC (zB ?_)
 refine stepW (zr 1 rfl rfl rfl (nb hn rfl) rfl rfl) fun b1 => ?_
 refine stepW (zh 2 rfl rfl rfl (nb hn rfl) zr62 rfl rfl) fun b2 => ?_
 refine sq rfl rfl hn rfl (zF rfl rfl) ?_
 refine zE (zA (zC ?_))
 refine zx (zn (t := 1) 1 rfl (nb hn rfl) rfl rfl trivial) ?_
 refine zB ?_
 refine sq rfl rfl hn rfl (ze rfl rfl Tryz.underlying50 rfl sz50 rfl rfl seesF0) ?_
 refine stepW (s_call [] (fun _ => zBG l) rfl (zI rfl) rfl (nb hn rfl) (fun _ => trivial) rfl rfl (.refl _)) fun _ => ?_
 refine sq rfl rfl hn rfl (zG rfl rfl) ?_
 refine sq rfl rfl hn rfl (zT rfl rfl rfl) ?_
 refine sq rfl rfl hn rfl (zT rfl rfl rfl) ?_
 refine sq rfl rfl hn rfl (zF rfl rfl) ?_
 refine sq rfl rfl hn rfl (zF rfl rfl) ?_
 refine zE (zA (zC (zC (zB ?_))))
 refine sq rfl rfl hn rfl (zG rfl rfl) ?_
 refine sq rfl rfl hn rfl (yX rfl rfl rfl) ?_
 refine zE (zA ?_)
 refine zS rfl (fun hb0 => ?_) (fun hb0 => ?_)
 ·
  have hk0 : (knownR l).2 ≠ 0 := by simpa using hb0
  refine zC (zB ?_)
  refine sq rfl rfl hn rfl (zg rfl bt62 rfl rfl rfl rfl rfl) ?_
  refine sq rfl rfl hn rfl (zG rfl rfl) ?_
  refine stepW (zl rfl rfl rfl rfl rfl rfl (id := 2) rfl sz62 rfl (Nat.le_of_ble_eq_true rfl) rfl trivial) fun _ => ?_
  refine sq rfl rfl hn rfl (zF rfl rfl) ?_
  refine zE (zA (zO (zL ?_)))
  refine zp (kL (.inl rfl) hl rfl (.cellA rfl (id := 2) rfl Tryz.underlying62 rfl sz62 rfl rfl) (.tmp rfl)) ?_
  rw [show buyX l = ((0, 0), (knownR l).2) from if_pos hk0]
 ·
  have hk0 : (knownR l).2 = 0 := by simpa using hb0
  have hc0 : checkL l = 0 := by (by_cases hc : checkL l = 0; exact hc; (rw [kl hc] at hk0; exact hk0))
  have L := ku hc0
  have hdl := L.dl
  refine zU (zA (zC (zB ?_)))
  refine sq rfl rfl hn rfl (ze rfl rfl Tryz.underlying50 rfl sz50 rfl rfl seesF0) ?_
  refine stepW (s_call [] (fun _ => zCQ l (fun q hq => by have := L.dq q hq; omega) (by omega)) rfl (zI rfl) rfl (nb hn rfl) (fun _ => trivial) rfl rfl (.refl _)) fun _ => ?_
  refine sq rfl rfl hn rfl (zg rfl bt62 rfl rfl rfl rfl rfl) ?_
  refine stepW (zh 6 rfl rfl rfl (nb hn rfl) zr62 rfl rfl) fun b6 => ?_
  refine stepW (zl rfl rfl rfl rfl rfl rfl (id := 6) rfl sz62 rfl (Nat.le_of_ble_eq_true rfl) rfl trivial) fun _ => ?_
  refine zE (zA (zC (zC (zB ?_))))
  refine sq rfl rfl hn rfl (zG rfl rfl) ?_
  refine sq rfl rfl hn rfl (z7 rfl rfl Tryz.underlying116) ?_
  refine sq rfl rfl hn rfl (zG rfl rfl) ?_
  refine zE (zA (zV ?_))
  refine awp_loop_on (ι := {x : Nat // x ≤ (knownR l).1.length}) (fun x => (26, true, .d (.int .i64 (x.1 : Nat))) :: anys [27, 28, 29, 8, 31, 32, 33, 34, 30, 35, 36, 37, 9, 10, 11, 38, 39, 40, 41, 42, 43, 44, 45, 46, 47, 48]) (fun x => (6, .box b6 62 [.d (.int .i64 (buyTo l x.1).1), .d (.int .i64 (buyTo l x.1).2)]) :: gones [8, 1050]) (fun x => (knownR l).1.length - x.1) ⟨0, Nat.zero_le _⟩ ⟨.inl rfl, zJ _⟩ ⟨.inl rfl, zX _⟩ ?_
  rintro ⟨i, hi⟩
  dsimp only
  refine zC (zB ?_)
  refine sq rfl rfl hn rfl (yJ rfl rfl rfl) ?_
  refine zE (zA (zC ?_))
  refine zS rfl (fun hb1 => ?_) (fun hb1 => ?_)
  ·
   have hil : i < (knownR l).1.length := by simpa using hb1
   obtain ⟨h, hh⟩ := z2 hil
   obtain ⟨_, hhl, hhb⟩ := hkb.2 h (List.mem_of_getElem? hh)
   refine zU (zA (zC (zV (zC (zB ?_)))))
   refine sq rfl rfl hn rfl (q_index (i := i) rfl rfl rfl Tryz.underlying116 sz121 rfl (mget hh)) ?_
   refine sq rfl rfl hn rfl (ze rfl rfl Tryz.underlying121 rfl sz121 rfl rfl seesF0) ?_
   refine stepW (zh 8 rfl rfl rfl (nb hn rfl) zr121 rfl rfl) fun b8 => ?_
   refine stepW (zl rfl rfl rfl rfl rfl rfl (id := 8) rfl sz121 rfl (Nat.le_of_ble_eq_true rfl) rfl trivial) fun _ => ?_
   refine zE (zA (zC ?_))
   refine yC (W := fun b => b ≠ b8) fmo ?_
   refine d1q (i := 0) rfl (by kernel_rfl) (fun _ _ _ _ h => h) rfl rfl hn rfl (ze rfl rfl Tryz.underlying50 rfl sz50 rfl rfl seesFA) ?_
   refine d1q (i := 2) rfl (by kernel_rfl) (fun _ _ _ _ h => h) rfl rfl hn rfl (zY rfl rfl (id := 8) rfl Tryz.underlying121 rfl sz121 rfl rfl (seesA (by simp))) ?_
   refine zM ?_
   refine zk (i := 1) (by kernel_rfl) rfl (s_callE (zBc l) rfl rfl rfl (nb hn rfl) (.d rfl) rfl (.refl _) trivial (fun _ => rfl) (fun _ h => zEL h)) fun bw => ?_
   refine d2_of_d1 (zM ?_)
   refine zk (i := 3) (by kernel_rfl) rfl (s_call [] (fun _ => zCW l (houN l) h (L.hok hhb) (-1) bw) rfl (zI rfl) rfl (nb hn rfl) (fun _ => trivial) rfl rfl (.refl _)) fun _ => ?_
   refine d2_of_d1 ?_
   refine d1q (i := 4) rfl (by kernel_rfl) (fun _ _ _ _ h => h) rfl rfl hn rfl (zG rfl rfl) ?_
   refine d1q (i := 5) rfl (by kernel_rfl) (fun _ _ _ _ h => h) rfl rfl hn rfl (zT rfl rfl rfl) ?_
   refine d1q (i := 6) rfl (by kernel_rfl) (fun _ _ _ _ h => h) rfl rfl hn rfl (zT rfl rfl rfl) ?_
   refine d1q (i := 7) rfl (by kernel_rfl) (fun _ _ _ _ h => h) rfl rfl hn rfl (zT rfl rfl rfl) ?_
   refine d1q (i := 8) rfl (by kernel_rfl) (fun _ _ _ _ h => h) rfl rfl hn rfl (zF rfl rfl) ?_
   refine d1q (i := 9) rfl (by kernel_rfl) (fun _ _ _ _ h => h) rfl rfl hn rfl (zF rfl rfl) ?_
   refine d1q (i := 10) rfl (by kernel_rfl) (fun _ _ _ _ h => h) rfl rfl hn rfl (zF rfl rfl) ?_
   refine zM ?_
   refine zv (by kernel_rfl) ?_
   refine zA ?_
   refine yR (e := .normal) (ι := Unit) (fun u0 => anys [38, 39, 40, 41, 42, 43, 44, 45, 46, 47]) (fun u0 => [(6, .box b6 62 [.d (.int .i64 (buyTo l (i + 1)).1), .d (.int .i64 (buyTo l (i + 1)).2)])]) (fun hJ2 => ?_) ?_
   ·
    refine yC (W := fun b => True) fmo ?_
    refine d1q (i := 0) rfl (by kernel_rfl) (fun _ _ _ _ h => h) rfl rfl hn rfl (zH rfl rfl Tryz.underlying62 rfl sz3) ?_
    refine d1q (i := 2) rfl (by kernel_rfl) (fun _ _ _ _ h => h) rfl rfl hn rfl (zG rfl rfl) ?_
    refine d1q (i := 5) rfl (by kernel_rfl) (fun _ _ _ _ h => h) rfl rfl hn rfl (zH rfl rfl Tryz.underlying62 rfl sz3) ?_
    refine d1q (i := 7) rfl (by kernel_rfl) (fun _ _ _ _ h => h) rfl rfl hn rfl (zG rfl rfl) ?_
    refine zM ?_
    refine yx 1 [6] (by kernel_rfl) ⟨?_, ?_, trivial⟩
    ·
     refine br rfl (yA _ [] (zI rfl) rfl (nb hn rfl) (fun _ => trivial) (fun _ => zQ rfl rfl (id := 6) rfl Tryz.underlying3 rfl rfl sees0)) fun _ => ?_
     refine d2_of_d1 (zM ?_)
     refine yx 3 [6] (by kernel_rfl) ⟨?_, ?_, trivial⟩
     ·
      refine br rfl (zP rfl rfl rfl (nb hn rfl) Tryz.underlying22 sz3 zr3 rfl rfl rfl (show _ = [.d (.int .i64 0), .d (.int .i64 0)] from by kernel_rfl) (by kernel_rfl) rfl rfl rfl rfl rfl) fun _ => ?_
      refine d2_of_d1 (zM ?_)
      refine yx 4 [6] (by kernel_rfl) ⟨?_, ?_, trivial⟩
      ·
       refine br rfl (s_call [] (fun _ => yp (buyTo l i).1 [boughtR l h]) rfl (zI rfl) rfl (nb hn rfl) (fun _ => trivial) rfl rfl (.refl _)) fun _ => ?_
       refine d2_of_d1 (zM ?_)
       refine zk (i := 6) (by kernel_rfl) rfl (yA _ [] (zI rfl) rfl (nb hn rfl) (fun _ => trivial) (fun _ => zQ rfl rfl (id := 6) rfl Tryz.underlying3 rfl rfl sees0)) fun _ => ?_
       refine d2_of_d1 ?_
       refine d1q (i := 8) rfl (by kernel_rfl) (fun _ _ _ _ h => h) rfl rfl hn rfl (zCt rfl rfl rfl) ?_
       refine d1q (i := 9) rfl (by kernel_rfl) (fun _ _ _ _ h => h) rfl rfl hn rfl (zg rfl bt62 rfl rfl rfl rfl rfl) ?_
       refine zM ?_
       refine zk (i := 10) (by kernel_rfl) rfl (zl rfl rfl rfl rfl rfl rfl (id := 6) rfl sz62 rfl (Nat.le_of_ble_eq_true rfl) rfl trivial) fun _ => ?_
       refine d2_of_d1 (zM ?_)
       refine zv (by kernel_rfl) ?_
       exact aend_join_on hJ2 () (zJ _) ⟨.inl (congrArg (fun z : Int × Int => some (Res.box b6 62 [.d (.int .i64 z.1), .d (.int .i64 z.2)])) (kw hh).symm), trivial⟩ (by repeat (first | exact kr _ | refine kc rfl ?_)) (by repeat (first | exact kr _ | refine kc rfl ?_))
      ·
       refine br rfl (yA _ [] (zI rfl) rfl (nb hn rfl) (fun _ => trivial) (fun _ => zQ rfl rfl (id := 6) rfl Tryz.underlying3 rfl rfl sees0)) fun _ => ?_
       refine d2_of_d1 ?_
       refine d1q (i := 8) rfl (by kernel_rfl) (fun _ _ _ _ h => h) rfl rfl hn rfl (zCt rfl rfl rfl) ?_
       refine zM ?_
       refine zk (i := 4) (by kernel_rfl) rfl (s_call [] (fun _ => yp (buyTo l i).1 [boughtR l h]) rfl (zI rfl) rfl (nb hn rfl) (fun _ => trivial) rfl rfl (.refl _)) fun _ => ?_
       refine d2_of_d1 ?_
       refine d1q (i := 9) rfl (by kernel_rfl) (fun _ _ _ _ h => h) rfl rfl hn rfl (zg rfl bt62 rfl rfl rfl rfl rfl) ?_
       refine zM ?_
       refine zk (i := 10) (by kernel_rfl) rfl (zl rfl rfl rfl rfl rfl rfl (id := 6) rfl sz62 rfl (Nat.le_of_ble_eq_true rfl) rfl trivial) fun _ => ?_
       refine d2_of_d1 (zM ?_)
       refine zv (by kernel_rfl) ?_
       exact aend_join_on hJ2 () (zJ _) ⟨.inl (congrArg (fun z : Int × Int => some (Res.box b6 62 [.d (.int .i64 z.1), .d (.int .i64 z.2)])) (kw hh).symm), trivial⟩ (by repeat (first | exact kr _ | refine kc rfl ?_)) (by repeat (first | exact kr _ | refine kc rfl ?_))
     ·
      refine br rfl (yA _ [] (zI rfl) rfl (nb hn rfl) (fun _ => trivial) (fun _ => zQ rfl rfl (id := 6) rfl Tryz.underlying3 rfl rfl sees0)) fun _ => ?_
      refine d2_of_d1 ?_
      refine d1q (i := 8) rfl (by kernel_rfl) (fun _ _ _ _ h => h) rfl rfl hn rfl (zCt rfl rfl rfl) ?_
      refine zM ?_
      refine zk (i := 3) (by kernel_rfl) rfl (zP rfl rfl rfl (nb hn rfl) Tryz.underlying22 sz3 zr3 rfl rfl rfl (show _ = [.d (.int .i64 0), .d (.int .i64 0)] from by kernel_rfl) (by kernel_rfl) rfl rfl rfl rfl rfl) fun _ => ?_
      refine d2_of_d1 (zM ?_)
      refine zk (i := 4) (by kernel_rfl) rfl (s_call [] (fun _ => yp (buyTo l i).1 [boughtR l h]) rfl (zI rfl) rfl (nb hn rfl) (fun _ => trivial) rfl rfl (.refl _)) fun _ => ?_
      refine d2_of_d1 ?_
      refine d1q (i := 9) rfl (by kernel_rfl) (fun _ _ _ _ h => h) rfl rfl hn rfl (zg rfl bt62 rfl rfl rfl rfl rfl) ?_
      refine zM ?_
      refine zk (i := 10) (by kernel_rfl) rfl (zl rfl rfl rfl rfl rfl rfl (id := 6) rfl sz62 rfl (Nat.le_of_ble_eq_true rfl) rfl trivial) fun _ => ?_
      refine d2_of_d1 (zM ?_)
      refine zv (by kernel_rfl) ?_
      exact aend_join_on hJ2 () (zJ _) ⟨.inl (congrArg (fun z : Int × Int => some (Res.box b6 62 [.d (.int .i64 z.1), .d (.int .i64 z.2)])) (kw hh).symm), trivial⟩ (by repeat (first | exact kr _ | refine kc rfl ?_)) (by repeat (first | exact kr _ | refine kc rfl ?_))
    ·
     refine br rfl (yA _ [] (zI rfl) rfl (nb hn rfl) (fun _ => trivial) (fun _ => zQ rfl rfl (id := 6) rfl Tryz.underlying3 rfl rfl sees0)) fun _ => ?_
     refine d2_of_d1 ?_
     refine d1q (i := 8) rfl (by kernel_rfl) (fun _ _ _ _ h => h) rfl rfl hn rfl (zCt rfl rfl rfl) ?_
     refine zM ?_
     refine zk (i := 1) (by kernel_rfl) rfl (yA _ [] (zI rfl) rfl (nb hn rfl) (fun _ => trivial) (fun _ => zQ rfl rfl (id := 6) rfl Tryz.underlying3 rfl rfl sees0)) fun _ => ?_
     refine d2_of_d1 (zM ?_)
     refine zk (i := 3) (by kernel_rfl) rfl (zP rfl rfl rfl (nb hn rfl) Tryz.underlying22 sz3 zr3 rfl rfl rfl (show _ = [.d (.int .i64 0), .d (.int .i64 0)] from by kernel_rfl) (by kernel_rfl) rfl rfl rfl rfl rfl) fun _ => ?_
     refine d2_of_d1 (zM ?_)
     refine zk (i := 4) (by kernel_rfl) rfl (s_call [] (fun _ => yp (buyTo l i).1 [boughtR l h]) rfl (zI rfl) rfl (nb hn rfl) (fun _ => trivial) rfl rfl (.refl _)) fun _ => ?_
     refine d2_of_d1 ?_
     refine d1q (i := 9) rfl (by kernel_rfl) (fun _ _ _ _ h => h) rfl rfl hn rfl (zg rfl bt62 rfl rfl rfl rfl rfl) ?_
     refine zM ?_
     refine zk (i := 10) (by kernel_rfl) rfl (zl rfl rfl rfl rfl rfl rfl (id := 6) rfl sz62 rfl (Nat.le_of_ble_eq_true rfl) rfl trivial) fun _ => ?_
     refine d2_of_d1 (zM ?_)
     refine zv (by kernel_rfl) ?_
     exact aend_join_on hJ2 () (zJ _) ⟨.inl (congrArg (fun z : Int × Int => some (Res.box b6 62 [.d (.int .i64 z.1), .d (.int .i64 z.2)])) (kw hh).symm), trivial⟩ (by repeat (first | exact kr _ | refine kc rfl ?_)) (by repeat (first | exact kr _ | refine kc rfl ?_))
   ·
    rintro _
    refine za (zA (zB ?_))
    refine sq rfl rfl hn rfl (z6 rfl rfl rfl (r := ((i + 1 : Nat) : Int)) (i64w (by omega) (by omega))) ?_
    refine sq rfl rfl hn rfl (zG rfl rfl) ?_
    refine zE ?_
    exact zZ ⟨i + 1, by omega⟩ ⟨.inl rfl, zJ _⟩ ⟨.inl rfl, zX _⟩ (by simp only; omega) (by repeat (first | exact kr _ | refine kc rfl ?_)) (by repeat (first | exact kr _ | refine kc rfl ?_))
  ·
   obtain rfl : i = (knownR l).1.length := by simp at hb1; omega
   rw [buy_to]
   refine zw (zK (zK (zW (zA (zC (zB ?_))))))
   refine sq rfl rfl hn rfl (zY rfl rfl (id := 6) rfl Tryz.underlying62 rfl sz62 rfl rfl sees0) ?_
   refine stepW (zl rfl rfl rfl rfl rfl rfl (id := 2) rfl sz62 rfl (Nat.le_of_ble_eq_true rfl) rfl trivial) fun _ => ?_
   refine sq rfl rfl hn rfl (zF rfl rfl) ?_
   refine zE (zA (zO ?_))
   refine zp (kL (.inl rfl) hl rfl (.cellA rfl (id := 2) rfl Tryz.underlying62 rfl sz62 rfl rfl) (.tmp rfl)) ?_
   rw [show buyX l = (buyR (owedI l.dues) ((knownR l).1.map (boughtR l)), 0) from if_neg (by simpa using hk0)]
end Go.Proofs.YtaokpncjemkhcaaGreat
namespace Go.Proofs.YtaokpncjemkhcaaGreat
open Go.RowKit
set_option maxRecDepth 20000
set_option linter.all false
def madeB (l : Ldg) (i : Nat) (h : List Int) : Bool := (bestR l (houN l) h (i : Int)).2.2
@[reducible] def askC (h : List Int) (i : Nat) : List D := handE h ++ [.int .i64 (i : Nat)]
@[reducible] def askD (h : List Int) (i : Nat) : D := .agg (askC h i)
/-- Hands of a ledger. -/
def HsOK (l : Ldg) (h : List Int) : Prop := h.length = houN l ∧ ∀ x ∈ h, 0 ≤ x ∧ x ≤ 4
def Good8 (l : Ldg) (M : D → D → Prop) : Prop := ∀ x y, M x y → ∃ h i, h.length = houN l ∧ x = askD h i ∧ y = .bool (madeB l i h)
theorem good8_none (l : Ldg) : Good8 l fun _ _ => False := fun _ _ h => h.elim
theorem ask_inj {l : Ldg} (h4 : houN l ≤ 4) {h h' : List Int} {i i' : Nat} (hl : h.length = houN l) (hl' : h'.length = houN l) (e : askD h i = askD h' i') : h = h' ∧ i = i' := by
  have e3 := D.agg.inj e
  simp only [askC, handE, List.cons_append, List.nil_append, List.cons.injEq, D.int.injEq, true_and, and_true, Int.natCast_inj] at e3
  obtain ⟨e0, e1, e2, e3, e4⟩ := e3
  refine ⟨(zDn h4 hl hl').1 ?_, e4⟩
  unfold hand4
  rw [e0, e1, e2, e3]
theorem look8 {l : Ldg} (h4 : houN l ≤ 4) {M : D → D → Prop} {h : List Int} {i : Nat} (hl : h.length = houN l) (hM : Good8 l M) (lr : {q : Option D // (∀ x, q = some x → M (askD h i) x) ∧ (q = none → ∀ x, ¬ M (askD h i) x)}) :
    ∃ xb : Bool, lr.1.getD (.bool false) = .bool xb ∧ (lr.1.isSome = true → xb = madeB l i h) := by
  obtain ⟨q, h1, h2⟩ := lr
  cases q with
  | none => exact ⟨false, rfl, fun h => (by cases h)⟩
  | some x =>
    obtain ⟨h', i', e0, e1, e2⟩ := hM _ _ (h1 x rfl)
    obtain ⟨rfl, rfl⟩ := ask_inj h4 hl e0 e1
    exact ⟨_, e2, fun _ => rfl⟩
theorem good8_set {l : Ldg} {M : D → D → Prop} {h : List Int} {i : Nat} (hl : h.length = houN l) (hM : Good8 l M) : Good8 l (setM M (askD h i) (.bool (madeB l i h))) := fun a c hh => by
  rcases hh with ⟨rfl, rfl⟩ | ⟨_, hh⟩
  · exact ⟨h, i, hl, rfl, rfl⟩
  · exact hM a c hh
theorem asked_lits {h : List Int} {i : Nat} (k : Nat) (hb : ∀ j, 0 ≤ h.getD j 0 ∧ h.getD j 0 ≤ 4) (hi : i < 1000) : ∃ ls, Tryz.prog.keyLits (k + 3) 124 [.int .i64 (h.getD 0 0), .int .i64 (h.getD 1 0), .int .i64 (h.getD 2 0), .int .i64 (h.getD 3 0), .int .i64 (i : Nat)] = some ls := by
  have h0 := zAo (n := h.getD 0 0) (by have := hb 0; omega)
  have h1 := zAo (n := h.getD 1 0) (by have := hb 1; omega)
  have h2 := zAo (n := h.getD 2 0) (by have := hb 2; omega)
  have h3 := zAo (n := h.getD 3 0) (by have := hb 3; omega)
  have h4 := zAo (n := (i : Int)) (by omega)
  have c1 : Tryz.prog.cellsOf 124 = 5 := by kernel_rfl
  have c2 : Tryz.prog.cellsOf 3 = 1 := by kernel_rfl
  have c3 : Tryz.prog.cellsOf 121 = 4 := by kernel_rfl
  generalize h.getD 0 0 = a at *
  generalize h.getD 1 0 = b at *
  generalize h.getD 2 0 = c at *
  generalize h.getD 3 0 = d at *
  simp only [Program.keyLits, Tryz.underlying124, Tryz.underlying121, Tryz.underlying3]
  simp [c1, c2, c3, h0, h1, h2, h3, h4, Program.keyLits, Tryz.underlying3, List.range_succ]
theorem asked_kv {h : List Int} {i : Nat} (hb : ∀ j, 0 ≤ h.getD j 0 ∧ h.getD j 0 ≤ 4) (hi : i < 1000) : KV Tryz.prog 124 (.agg [.int .i64 (h.getD 0 0), .int .i64 (h.getD 1 0), .int .i64 (h.getD 2 0), .int .i64 (h.getD 3 0), .int .i64 (i : Nat)].toArray) := by
  have c1 : Tryz.prog.cellsOf 124 = 5 := by kernel_rfl
  have hk : Tryz.prog.keyType 124 = true := by kernel_rfl
  have h1 : Nat.ble 2 Tryz.prog.types.size = true := by kernel_rfl
  have hs : ∃ k, Tryz.prog.types.size + 1 = k + 3 := ⟨Tryz.prog.types.size - 2, by have := Nat.le_of_ble_eq_true h1; omega⟩
  obtain ⟨k, hs⟩ := hs
  obtain ⟨ls, hl⟩ := asked_lits k hb hi
  generalize h.getD 0 0 = a at *
  generalize h.getD 1 0 = b at *
  generalize h.getD 2 0 = c at *
  generalize h.getD 3 0 = d at *
  unfold KV keyOf
  rw [Tryz.underlying124, hs]
  simp only [hk, Value.formed, Tryz.underlying124, c1, Value.cells]
  simp [hl]
def verdTo (l : Ldg) (i : Nat) : List Int := (List.range i).map fun (i : Nat) => verdB ((knownR l).1.map (madeB l i))
def verdX (l : Ldg) : List Int × Int := if (knownR l).2 ≠ 0 then ([], (knownR l).2) else (verdTo l l.dues.length, 0)
theorem verdTo_succ (l : Ldg) (i : Nat) : verdTo l (i + 1) = verdTo l i ++ [verdB ((knownR l).1.map (madeB l i))] := by unfold verdTo; rw [List.range_succ, List.map_append]; rfl
theorem verdTo_len (l : Ldg) (i : Nat) : (verdTo l i).length = i := by simp [verdTo]
theorem verd_all {l : Ldg} {i : Nat} (h : (knownR l).1.all (madeB l i) = true) : verdB ((knownR l).1.map (madeB l i)) = 1 := by unfold verdB; rw [List.all_map]; exact if_pos h
theorem verd_any {l : Ldg} {i : Nat} (h : (knownR l).1.all (madeB l i) = false) (h2 : (knownR l).1.any (madeB l i) = true) : verdB ((knownR l).1.map (madeB l i)) = 3 := by
  unfold verdB; rw [List.all_map, List.any_map]
  have e1 : (knownR l).1.all (id ∘ madeB l i) = false := h
  have e2 : (knownR l).1.any (id ∘ madeB l i) = true := h2
  rw [e1, e2]; rfl
theorem verd_none {l : Ldg} {i : Nat} (h : (knownR l).1.all (madeB l i) = false) (h2 : (knownR l).1.any (madeB l i) = false) : verdB ((knownR l).1.map (madeB l i)) = 2 := by
  unfold verdB; rw [List.all_map, List.any_map]
  have e1 : (knownR l).1.all (id ∘ madeB l i) = false := h
  have e2 : (knownR l).1.any (id ∘ madeB l i) = false := h2
  rw [e1, e2]; rfl
theorem zB4 {l : Ldg} {i : Nat} {x : Int} (h : verdB ((knownR l).1.map (madeB l i)) = x) : (verdTo l i).map intE ++ [intE x] = (verdTo l (i + 1)).map intE := by rw [verdTo_succ, h, List.map_append]; rfl
theorem sz119 : Sz Tryz.prog 119 1 := (by kernel_rfl : (Tryz.prog.info? 119).map (·.size) = some 1)
theorem sz124 : Sz Tryz.prog 124 5 := (by kernel_rfl : (Tryz.prog.info? 124).map (·.size) = some 5)
theorem sz154 : Sz Tryz.prog 154 1 := (by kernel_rfl : (Tryz.prog.info? 154).map (·.size) = some 1)
theorem zr119 : (Tryz.prog.info? 119).map (·.zero) = some (some (.pointer none)) := by kernel_rfl
theorem zr124 : (Tryz.prog.info? 124).map (·.zero) = some (some (.agg #[(.int .i64 0), (.int .i64 0), (.int .i64 0), (.int .i64 0), (.int .i64 0)])) := by kernel_rfl
theorem bt124 : BT Tryz.prog 124 (.agg #[(.int .i64 0), (.int .i64 0), (.int .i64 0), (.int .i64 0), (.int .i64 0)]) (fun i => ([(0, 4), (4, 1)] : List (Nat × Nat))[i]?) := yO Tryz.underlying124 zr124 (by kernel_rfl)
theorem made_eff (l : Ldg) (L : Lok l) (b : Nat) (M : D → D → Prop) (hM : Good8 l M) (h : List Int) (hh : HsOK l h) (i : Nat) (hi : i < 1000) : EffAt Tryz.prog 62 [.d (.ptr (workC8 l b)), .d (askD h i)] [(1050, mapRes KS8 b M)] (X := {M // Good8 l M}) (fun _ => .d (.bool (madeB l i h))) (fun M => [(1050, mapRes KS8 b M.1)]) := by
 have hkv := asked_kv (i := i) (zEC (N := 0) hh.2) hi
 refine EffAt.of_awp Tryz.func62 rfl (by kernel_rfl) rfl fun Γ hn => ?_
 refine zC (zB ?_)
 refine stepW (zr 3 rfl rfl rfl (nb hn rfl) rfl rfl) fun b3 => ?_
 refine sq rfl rfl hn rfl (zF rfl rfl) ?_
 refine zE (zA (zC ?_))
 refine zx (zn (t := 3) 3 rfl (nb hn rfl) rfl rfl trivial) ?_
 refine yC (W := fun b => True) fmo ?_
 refine d1q (i := 0) rfl (by kernel_rfl) (fun _ _ _ _ h => h) rfl rfl hn rfl (zG rfl rfl) ?_
 refine d1q (i := 1) rfl (by kernel_rfl) (fun _ _ _ _ h => h) rfl rfl hn rfl (z8 rfl rfl) ?_
 refine d1q (i := 2) rfl (by kernel_rfl) (fun _ _ _ _ h => h) rfl rfl hn rfl (zN rfl rfl Tryz.underlying156 rfl sz154 rfl) ?_
 refine d1q (i := 3) rfl (by kernel_rfl) (fun _ _ _ _ h => h) rfl rfl hn rfl (zR rfl rfl Tryz.underlying154 rfl seesFA) ?_
 refine d1q (i := 4) rfl (by kernel_rfl) (fun _ _ _ _ h => h) rfl rfl hn rfl (ze rfl rfl Tryz.underlying124 rfl sz124 rfl rfl seesFA) ?_
 refine zM ?_
 refine zk (i := 5) (by kernel_rfl) rfl (zAv (id := 1050) (zd := (.bool false)) rfl rfl rfl (nb hn rfl) zC2 Tryz.underlying154 zr4 rfl (.d rfl) rfl rfl (hkv) rfl) fun lr => ?_
 obtain ⟨xb, hx1, hx2⟩ := look8 L.hN.2.1 hh.1 hM lr
 rw [hx1]
 refine d2_of_d1 ?_
 refine d1q (i := 6) rfl (by kernel_rfl) (fun _ _ _ _ h => h) rfl rfl hn rfl (zG rfl rfl) ?_
 refine d1q (i := 7) rfl (by kernel_rfl) (fun _ _ _ _ h => h) rfl rfl hn rfl (zT rfl rfl rfl) ?_
 refine d1q (i := 8) rfl (by kernel_rfl) (fun _ _ _ _ h => h) rfl rfl hn rfl (zT rfl rfl rfl) ?_
 refine d1q (i := 9) rfl (by kernel_rfl) (fun _ _ _ _ h => h) rfl rfl hn rfl (zF rfl rfl) ?_
 refine d1q (i := 10) rfl (by kernel_rfl) (fun _ _ _ _ h => h) rfl rfl hn rfl (zF rfl rfl) ?_
 refine zM ?_
 refine zv (by kernel_rfl) ?_
 refine zA (zC (zC (zB ?_)))
 refine sq rfl rfl hn rfl (zG rfl rfl) ?_
 refine sq rfl rfl hn rfl (yF rfl rfl) ?_
 refine zE (zA ?_)
 refine yR (e := .normal) (ι := {M // Good8 l M}) (fun x => (5, true, .d (.bool (madeB l i h))) :: anys [19, 20, 21, 22, 23, 24, 18, 25, 26, 27, 28, 29, 30, 31, 32, 33]) (fun x => [(1050, mapRes KS8 b x.1)]) (fun hJ0 => ?_) ?_
 ·
  refine zS rfl (fun hb0 => ?_) (fun hb0 => ?_)
  ·
   refine zC (zB ?_)
   refine sq rfl rfl hn rfl (zG rfl rfl) ?_
   refine sq rfl rfl hn rfl (zN rfl rfl Tryz.underlying124 rfl sz121 rfl) ?_
   refine sq rfl rfl hn rfl (ze rfl rfl Tryz.underlying121 rfl sz121 rfl rfl seesF0) ?_
   refine sq rfl rfl hn rfl (zN rfl rfl Tryz.underlying124 rfl sz3 rfl) ?_
   refine sq rfl rfl hn rfl (zR rfl rfl Tryz.underlying3 rfl seesF0) ?_
   refine stepW (s_call [] (fun _ => zCW l (houN l) h (L.hok hh.2) (i : Int) b) rfl (zI rfl) rfl (nb hn rfl) (fun _ => trivial) rfl rfl (.refl _)) fun _ => ?_
   refine sq rfl rfl hn rfl (zG rfl rfl) ?_
   refine sq rfl rfl hn rfl (zT rfl rfl rfl) ?_
   refine sq rfl rfl hn rfl (zT rfl rfl rfl) ?_
   refine sq rfl rfl hn rfl (zT rfl rfl rfl) ?_
   refine sq rfl rfl hn rfl (zF rfl rfl) ?_
   refine zE (zA ?_)
   refine yC (W := fun b => True) fmo ?_
   refine d1q (i := 0) rfl (by kernel_rfl) (fun _ _ _ _ h => h) rfl rfl hn rfl (zG rfl rfl) ?_
   refine d1q (i := 1) rfl (by kernel_rfl) (fun _ _ _ _ h => h) rfl rfl hn rfl (z8 rfl rfl) ?_
   refine d1q (i := 2) rfl (by kernel_rfl) (fun _ _ _ _ h => h) rfl rfl hn rfl (zN rfl rfl Tryz.underlying156 rfl sz154 rfl) ?_
   refine d1q (i := 3) rfl (by kernel_rfl) (fun _ _ _ _ h => h) rfl rfl hn rfl (zR rfl rfl Tryz.underlying154 rfl seesFA) ?_
   refine d1q (i := 4) rfl (by kernel_rfl) (fun _ _ _ _ h => h) rfl rfl hn rfl (ze rfl rfl Tryz.underlying124 rfl sz124 rfl rfl seesFA) ?_
   refine d1q (i := 5) rfl (by kernel_rfl) (fun _ _ _ _ h => h) rfl rfl hn rfl (zG rfl rfl) ?_
   refine zM ?_
   refine zk (i := 6) (by kernel_rfl) rfl (kV (id := 1050) rfl rfl rfl zC2 Tryz.underlying154 (.d rfl) rfl rfl (hkv) rfl rfl rfl rfl trivial) fun _ => ?_
   refine d2_of_d1 (zM ?_)
   refine zv (by kernel_rfl) ?_
   exact aend_join_on hJ0 ⟨setM M (askD h i) (.bool (madeB l i h)), good8_set hh.1 hM⟩ ⟨.inl rfl, zJ _⟩ ⟨.inl rfl, trivial⟩ (by repeat (first | exact kr _ | refine kc rfl ?_)) (by repeat (first | exact kr _ | refine kc rfl ?_))
  ·
   have hxm : xb = madeB l i h := hx2 (notF hb0)
   refine zU ?_
   exact aend_join_on hJ0 ⟨M, hM⟩ ⟨.inl (congrArg (fun z : Bool => some (true, TV.d (.bool z))) hxm), zJ _⟩ ⟨.inl rfl, trivial⟩ (by repeat (first | exact kr _ | refine kc rfl ?_)) (by repeat (first | exact kr _ | refine kc rfl ?_))
 ·
  rintro ⟨M2, hM2⟩
  dsimp only
  refine zA (zC (zB ?_))
  refine sq rfl rfl hn rfl (zG rfl rfl) ?_
  refine sq rfl rfl hn rfl (zF rfl rfl) ?_
  refine zE (zA (zO ?_))
  exact ret_E (.inl rfl) ⟨M2, hM2⟩ (yB rfl (.tmp rfl)) ⟨rfl, trivial⟩
theorem zCz (l : Ldg) (L : Lok l) (b : Nat) (M : D → D → Prop) (hM : Good8 l M) (h : List Int) (hh : HsOK l h) (i : Nat) (hi : i < 1000) : EffAt Tryz.prog 61 [.d (handD h), .d (.ptr [.ptr (workC8 l b)]), .d (.ptr [.int .i64 (i : Nat)])] [(1050, mapRes KS8 b M)] (X := {M // Good8 l M}) (fun _ => .d (.bool (madeB l i h))) (fun M => [(1050, mapRes KS8 b M.1)]) := by
 refine EffAt.of_awp Tryz.func61 rfl (by kernel_rfl) rfl fun Γ hn => ?_
 refine zC (zB ?_)
 refine stepW (zr 3 rfl rfl rfl (nb hn rfl) rfl rfl) fun b3 => ?_
 refine sq rfl rfl hn rfl (zF rfl rfl) ?_
 refine zE (zA (zC (zB ?_)))
 refine sq rfl rfl hn rfl (zR rfl rfl Tryz.underlying119 rfl seesF0) ?_
 refine sq rfl rfl hn rfl (zY rfl rfl (id := 3) rfl Tryz.underlying121 rfl sz121 rfl rfl sees0) ?_
 refine sq rfl rfl hn rfl (zR rfl rfl Tryz.underlying3 rfl seesF0) ?_
 refine sq rfl rfl hn rfl (zg rfl bt124 rfl rfl rfl rfl rfl) ?_
 refine stepW (s_callE (made_eff l L b M hM h hh i hi) rfl rfl rfl (nb hn rfl) (.d rfl) rfl (.refl _) ⟨rfl, trivial⟩ (fun _ => rfl) (fun _ _ => trivial)) fun ⟨M2, hM2⟩ => ?_
 refine sq rfl rfl hn rfl (zF rfl rfl) ?_
 refine zE (zA (zO ?_))
 exact ret_E (.inl rfl) ⟨M2, hM2⟩ (yB rfl (.tmp rfl)) ⟨rfl, trivial⟩
theorem IndexH_eff (l : Ldg) (b : Nat) (hs : List (List Int)) (hl5 : hs.length ≤ 1000) (p : List Int → Bool) (g : FuncId) (ca : List D) (hp : ∀ h ∈ hs, ∀ M, Good8 l M → EffAt Tryz.prog g (.d (handD h) :: ca.map .d) [(1050, mapRes KS8 b M)] (X := {M // Good8 l M}) (fun _ => .d (.bool (p h))) (fun M => [(1050, mapRes KS8 b M.1)])) (M : D → D → Prop) (hM : Good8 l M) : EffAt Tryz.prog 92 [.d (handsD hs), .d (.fn (.func g) [] ca)] [(1050, mapRes KS8 b M)] (X := {M // Good8 l M}) (fun _ => .d (.int .i64 (idxOf p hs))) (fun M => [(1050, mapRes KS8 b M.1)]) := by
 refine EffAt.of_awp Tryz.func92 rfl (by kernel_rfl) rfl fun Γ hn => ?_
 refine zC (zB ?_)
 refine sq rfl rfl hn rfl (zF rfl rfl) ?_
 refine zE (zA (zC (zC (zB ?_))))
 refine sq rfl rfl hn rfl (zG rfl rfl) ?_
 refine sq rfl rfl hn rfl (z7 rfl rfl Tryz.underlying116) ?_
 refine sq rfl rfl hn rfl (zG rfl rfl) ?_
 refine zE (zA (zV ?_))
 refine awp_loop_on (ι := { x : Nat × (D → D → Prop) // x.1 ≤ hs.length ∧ (hs.take x.1).all (fun x => !p x) = true ∧ Good8 l x.2 }) (fun x => (8, true, .d (.int .i64 (x.1.1 : Nat))) :: anys [9, 10, 5, 11, 12, 13, 14, 15, 16, 18]) (fun x => [(1050, mapRes KS8 b x.1.2)]) (fun x => hs.length - x.1.1) ⟨(0, M), by simp, by simp, hM⟩ ⟨.inl rfl, zJ _⟩ ⟨.inl rfl, trivial⟩ ?_
 rintro ⟨⟨i, M1⟩, hi, hall, hM1⟩
 dsimp only
 dsimp only at hi hall hM1
 refine zC (zB ?_)
 refine sq rfl rfl hn rfl (yJ rfl rfl rfl) ?_
 refine zE (zA (zC ?_))
 refine zS rfl (fun hb0 => ?_) (fun hb0 => ?_)
 ·
  have hlt : i < hs.length := by simpa using hb0
  obtain ⟨x, hx⟩ := z2 hlt
  refine zU (zA (zC (zV (zC (zB ?_)))))
  refine sq rfl rfl hn rfl (zG rfl rfl) ?_
  refine sq rfl rfl hn rfl (zF rfl rfl) ?_
  refine zE (zA (zC (zB ?_)))
  refine sq rfl rfl hn rfl (zG rfl rfl) ?_
  refine sq rfl rfl hn rfl (zG rfl rfl) ?_
  refine sq rfl rfl hn rfl (zG rfl rfl) ?_
  refine sq rfl rfl hn rfl (q_index (i := i) rfl rfl rfl Tryz.underlying116 sz121 rfl (mget hx)) ?_
  refine sq rfl rfl hn rfl (ze rfl rfl Tryz.underlying121 rfl sz121 rfl rfl seesF0) ?_
  refine stepW (s_callE (hp x (List.mem_of_getElem? hx) M1 hM1) rfl rfl rfl (nb hn rfl) (.d rfl) rfl (.refl _) ⟨rfl, trivial⟩ (fun _ => rfl) (fun _ _ => trivial)) fun ⟨M2, hM2⟩ => ?_
  refine zE (zA ?_)
  refine zS rfl (fun hb1 => ?_) (fun hb1 => ?_)
  ·
   have hnt : p x = true := hb1
   refine zC (zB ?_)
   refine sq rfl rfl hn rfl (zG rfl rfl) ?_
   refine sq rfl rfl hn rfl (zF rfl rfl) ?_
   refine zE (zA (zO (zf (zL (zL (zf (zL ?_)))))))
   exact ret_E (.inl rfl) ⟨M2, hM2⟩ ((yB rfl (.tmp rfl)).eq (by rw [yu hx hall hnt])) ⟨rfl, trivial⟩
  ·
   have hnf : p x = false := hb1
   refine zU (za (zA (zB ?_)))
   refine sq rfl rfl hn rfl (z6 rfl rfl rfl (r := ((i + 1 : Nat) : Int)) (i64w (by omega) (by omega))) ?_
   refine sq rfl rfl hn rfl (zG rfl rfl) ?_
   refine zE ?_
   exact zZ ⟨(i + 1, M2), by omega, yN hx hall (by rw [hnf]; rfl), hM2⟩ ⟨.inl rfl, zJ _⟩ ⟨.inl rfl, trivial⟩ (by simp only; omega) (by repeat (first | exact kr _ | refine kc rfl ?_)) (by repeat (first | exact kr _ | refine kc rfl ?_))
 ·
  have hi2 : i = hs.length := by simp only [List.length_map, decide_eq_false_iff_not] at hb0; omega
  refine zw (zK (zK (zW (zA (zC (zB ?_))))))
  refine sq rfl rfl hn rfl (zF rfl rfl) ?_
  refine zE (zA (zO ?_))
  exact ret_E (.inl rfl) ⟨M1, hM1⟩ ((yB rfl (.tmp rfl)).eq (by subst hi2; rw [List.take_length] at hall; rw [ye hall]; rfl)) ⟨rfl, trivial⟩
theorem zAh (l : Ldg) (b : Nat) (hs : List (List Int)) (hl5 : hs.length ≤ 1000) (p : List Int → Bool) (g : FuncId) (ca : List D) (hp : ∀ h ∈ hs, ∀ M, Good8 l M → EffAt Tryz.prog g (.d (handD h) :: ca.map .d) [(1050, mapRes KS8 b M)] (X := {M // Good8 l M}) (fun _ => .d (.bool (p h))) (fun M => [(1050, mapRes KS8 b M.1)])) (M : D → D → Prop) (hM : Good8 l M) : EffAt Tryz.prog 64 [.d (handsD hs), .d (.fn (.func g) [] ca)] [(1050, mapRes KS8 b M)] (X := {M // Good8 l M}) (fun _ => .d (.bool (hs.any p))) (fun M => [(1050, mapRes KS8 b M.1)]) := by
 refine EffAt.of_awp Tryz.func64 rfl (by kernel_rfl) rfl fun Γ hn => ?_
 refine zC (zB ?_)
 refine sq rfl rfl hn rfl (zF rfl rfl) ?_
 refine zE (zA (zC (zB ?_)))
 refine sq rfl rfl hn rfl (zG rfl rfl) ?_
 refine sq rfl rfl hn rfl (zG rfl rfl) ?_
 refine stepW (s_callE (IndexH_eff l b hs hl5 p g ca hp M hM) rfl rfl rfl (nb hn rfl) (.d rfl) rfl (.refl _) ⟨rfl, trivial⟩ (fun _ => rfl) (fun _ _ => trivial)) fun ⟨M2, hM2⟩ => ?_
 refine sq rfl rfl hn rfl (zCP rfl rfl rfl) ?_
 refine sq rfl rfl hn rfl (zF rfl rfl) ?_
 refine zE (zA (zO ?_))
 exact ret_E (.inl rfl) ⟨M2, hM2⟩ ((yB rfl (.tmp rfl)).eq (by rw [yU])) ⟨rfl, trivial⟩
theorem allH1_eff (l : Ldg) (b : Nat) (h : List Int) (q : Bool) (g : FuncId) (ca : List D) (M : D → D → Prop) (hp : EffAt Tryz.prog g (.d (handD h) :: ca.map .d) [(1050, mapRes KS8 b M)] (X := {M // Good8 l M}) (fun _ => .d (.bool q)) (fun M => [(1050, mapRes KS8 b M.1)])) : EffAt Tryz.prog 91 [.d (handD h), .d (.ptr [.fn (.func g) [] ca])] [(1050, mapRes KS8 b M)] (X := {M // Good8 l M}) (fun _ => .d (.bool (!q))) (fun M => [(1050, mapRes KS8 b M.1)]) := by
 refine EffAt.of_awp Tryz.func91 rfl (by kernel_rfl) rfl fun Γ hn => ?_
 refine zC (zB ?_)
 refine stepW (zr 2 rfl rfl rfl (nb hn rfl) rfl rfl) fun b2 => ?_
 refine sq rfl rfl hn rfl (zF rfl rfl) ?_
 refine zE (zA (zC (zB ?_)))
 refine sq rfl rfl hn rfl (zR rfl rfl Tryz.underlying125 rfl seesF0) ?_
 refine sq rfl rfl hn rfl (zY rfl rfl (id := 2) rfl Tryz.underlying121 rfl sz121 rfl rfl sees0) ?_
 refine stepW (s_callE (hp) rfl rfl rfl (nb hn rfl) (.d rfl) rfl (.refl _) ⟨rfl, trivial⟩ (fun _ => rfl) (fun _ _ => trivial)) fun ⟨M2, hM2⟩ => ?_
 refine sq rfl rfl hn rfl (yF rfl rfl) ?_
 refine sq rfl rfl hn rfl (zF rfl rfl) ?_
 refine zE (zA (zO ?_))
 exact ret_E (.inl rfl) ⟨M2, hM2⟩ (yB rfl (.tmp rfl)) ⟨rfl, trivial⟩
theorem allH_eff (l : Ldg) (b : Nat) (hs : List (List Int)) (hl5 : hs.length ≤ 1000) (p : List Int → Bool) (g : FuncId) (ca : List D) (hp : ∀ h ∈ hs, ∀ M, Good8 l M → EffAt Tryz.prog g (.d (handD h) :: ca.map .d) [(1050, mapRes KS8 b M)] (X := {M // Good8 l M}) (fun _ => .d (.bool (p h))) (fun M => [(1050, mapRes KS8 b M.1)])) (M : D → D → Prop) (hM : Good8 l M) : EffAt Tryz.prog 63 [.d (handsD hs), .d (.fn (.func g) [] ca)] [(1050, mapRes KS8 b M)] (X := {M // Good8 l M}) (fun _ => .d (.bool (hs.all p))) (fun M => [(1050, mapRes KS8 b M.1)]) := by
 refine EffAt.of_awp Tryz.func63 rfl (by kernel_rfl) rfl fun Γ hn => ?_
 refine zC (zB ?_)
 refine stepW (zr 3 rfl rfl rfl (nb hn rfl) rfl rfl) fun b3 => ?_
 refine sq rfl rfl hn rfl (zF rfl rfl) ?_
 refine zE (zA (zC (zB ?_)))
 refine sq rfl rfl hn rfl (zG rfl rfl) ?_
 refine kM (zn (t := 3) 3 rfl (nb hn rfl) rfl rfl trivial) ?_
 refine sq rfl rfl hn rfl (yE rfl rfl rfl) ?_
 refine stepW (s_callE (zAh l b hs hl5 (fun x => !p x) 91 [.ptr [.fn (.func g) [] ca]] (fun h hh M hM => allH1_eff l b h (p h) g ca M (hp h hh M hM)) M hM) rfl rfl rfl (nb hn rfl) (.d rfl) rfl (.refl _) ⟨rfl, trivial⟩ (fun _ => rfl) (fun _ _ => trivial)) fun ⟨M2, hM2⟩ => ?_
 refine sq rfl rfl hn rfl (yF rfl rfl) ?_
 refine sq rfl rfl hn rfl (zF rfl rfl) ?_
 refine zE (zA (zO ?_))
 exact ret_E (.inl rfl) ⟨M2, hM2⟩ ((yB rfl (.tmp rfl)).eq (by rw [List.all_eq_not_any_not])) ⟨rfl, trivial⟩
theorem zAT (l : Ldg) : PureAt Tryz.prog 21 [ldgD l] (.tup [ints (verdX l).1, .int .i64 (verdX l).2]) := by
 have hkb := zBC (l := l)
 refine PureAt.of_awp Tryz.func21 rfl (by kernel_rfl) (Nat.le_of_ble_eq_true rfl) fun Γ hn hl => ?_
 refine zC (zB ?_)
 refine stepW (zr 1 rfl rfl rfl (nb hn rfl) rfl rfl) fun b1 => ?_
 refine sq rfl rfl hn rfl (zF rfl rfl) ?_
 refine sq rfl rfl hn rfl (zF rfl rfl) ?_
 refine zE (zA (zC ?_))
 refine zx (zn (t := 1) 1 rfl (nb hn rfl) rfl rfl trivial) ?_
 refine zB ?_
 refine sq rfl rfl hn rfl (ze rfl rfl Tryz.underlying50 rfl sz50 rfl rfl seesF0) ?_
 refine stepW (s_call [] (fun _ => zBG l) rfl (zI rfl) rfl (nb hn rfl) (fun _ => trivial) rfl rfl (.refl _)) fun _ => ?_
 refine sq rfl rfl hn rfl (zG rfl rfl) ?_
 refine sq rfl rfl hn rfl (zT rfl rfl rfl) ?_
 refine sq rfl rfl hn rfl (zT rfl rfl rfl) ?_
 refine sq rfl rfl hn rfl (zF rfl rfl) ?_
 refine sq rfl rfl hn rfl (zF rfl rfl) ?_
 refine zE (zA (zC (zC (zB ?_))))
 refine sq rfl rfl hn rfl (zG rfl rfl) ?_
 refine sq rfl rfl hn rfl (yX rfl rfl rfl) ?_
 refine zE (zA ?_)
 refine zS rfl (fun hb0 => ?_) (fun hb0 => ?_)
 ·
  have hk0 : (knownR l).2 ≠ 0 := by simpa using hb0
  refine zC (zB ?_)
  refine sq rfl rfl hn rfl (zG rfl rfl) ?_
  refine sq rfl rfl hn rfl (zF rfl rfl) ?_
  refine sq rfl rfl hn rfl (zF rfl rfl) ?_
  refine zE (zA (zO (zL ?_)))
  refine kb (kL (.inl rfl) hl rfl (.tmp rfl) (.tmp rfl)) ?_
  rw [show verdX l = ([], (knownR l).2) from if_pos hk0]; exact .tup (.cons (.nil 1) (.refl _))
 ·
  have hk0 : (knownR l).2 = 0 := by simpa using hb0
  have hc0 : checkL l = 0 := by (by_cases hc : checkL l = 0; exact hc; (rw [kl hc] at hk0; exact hk0))
  have L := ku hc0
  have hdl := L.dl
  refine zU (zA (zC (zB ?_)))
  refine sq rfl rfl hn rfl (ze rfl rfl Tryz.underlying50 rfl sz50 rfl rfl seesF0) ?_
  refine stepW (s_callE (zBc l) rfl rfl rfl (nb hn rfl) (.d rfl) rfl (.refl _) trivial (fun _ => rfl) (fun _ _ => trivial)) fun bw => ?_
  refine stepW (zh 6 rfl rfl rfl (nb hn rfl) zr119 rfl rfl) fun b6 => ?_
  refine stepW (s_store1 rfl rfl rfl rfl rfl rfl (id := 6) rfl sz119 (Nat.le_of_ble_eq_true rfl) rfl trivial) fun _ => ?_
  refine zE (zA (zC ?_))
  refine zx (zn (t := 6) 6 rfl (nb hn rfl) rfl rfl trivial) ?_
  refine zB ?_
  refine sq rfl rfl hn rfl (zF rfl rfl) ?_
  refine zE (zA (zC (zC ?_)))
  refine zx (g_nil (t := 7) (id := 7) 3 1 rfl (nb hn rfl)) ?_
  refine zB ?_
  refine sq rfl rfl hn rfl (zN rfl rfl Tryz.underlying50 rfl sz48 rfl) ?_
  refine sq rfl rfl hn rfl (zR rfl rfl Tryz.underlying48 rfl seesF0) ?_
  refine sq rfl rfl hn rfl (z7 rfl rfl Tryz.underlying48) ?_
  refine sq rfl rfl hn rfl (zG rfl rfl) ?_
  refine zE (zA (zV ?_))
  refine awp_loop_on (ι := {x : Nat × Value × (D → D → Prop) // x.1 ≤ l.dues.length ∧ Good8 l x.2.2}) (fun x => (7, true, .val x.1.2.1) :: (23, true, .d (.int .i64 (x.1.1 : Nat))) :: anys [24, 25, 8, 26, 9, 31, 32, 33, 30, 34, 35, 36, 38, 39, 40, 37, 41, 42, 43, 27, 28, 29, 44]) (fun x => (7, .row x.1.2.1 3 1 ((verdTo l x.1.1).map intE)) :: (1050, mapRes KS8 bw x.1.2.2) :: gones [8]) (fun x => l.dues.length - x.1.1) ⟨(0, _, _), Nat.zero_le _, good8_none l⟩ ⟨.inl rfl, .inl rfl, zJ _⟩ ⟨.inl rfl, .inl rfl, zX _⟩ ?_
  rintro ⟨⟨i, vv, M1⟩, hi, hM1⟩
  dsimp only
  dsimp only at hi hM1
  have hvl := verdTo_len l i
  refine zC (zB ?_)
  refine sq rfl rfl hn rfl (yJ rfl rfl rfl) ?_
  refine zE (zA (zC ?_))
  refine zS rfl (fun hb1 => ?_) (fun hb1 => ?_)
  ·
   have hil : i < l.dues.length := by simpa using hb1
   refine zU (zA (zC (zV (zC (zB ?_)))))
   refine sq rfl rfl hn rfl (zG rfl rfl) ?_
   refine stepW (zh 8 rfl rfl rfl (nb hn rfl) zr3 rfl rfl) fun b8 => ?_
   refine stepW (s_store1 rfl rfl rfl rfl rfl rfl (id := 8) rfl sz3 (Nat.le_of_ble_eq_true rfl) rfl trivial) fun _ => ?_
   refine zE (zA (zC ?_))
   refine zx (zn (t := 8) 8 rfl (nb hn rfl) rfl rfl trivial) ?_
   refine zB ?_
   refine sq rfl rfl hn rfl (yE rfl rfl rfl) ?_
   refine sq rfl rfl hn rfl (zF rfl rfl) ?_
   refine zE (zA (zV (zC (zB ?_))))
   refine sq rfl rfl hn rfl (zG rfl rfl) ?_
   refine sq rfl rfl hn rfl (zG rfl rfl) ?_
   refine stepW (s_callE (allH_eff l bw (knownR l).1 (by omega) (madeB l i) 61 [.ptr [.ptr (workC8 l bw)], .ptr [.int .i64 (i : Nat)]] (fun h hh M hM => zCz l L bw M hM h (hkb.2 h hh).2 i (by omega)) M1 hM1) rfl rfl rfl (nb hn rfl) (.d rfl) rfl (.refl _) ⟨rfl, trivial⟩ (fun _ => rfl) (fun _ _ => trivial)) fun ⟨M2, hM2⟩ => ?_
   refine sq rfl rfl hn rfl (zF rfl rfl) ?_
   refine zE (zA ?_)
   refine yR (e := .normal) (ι := Value × {M // Good8 l M}) (fun x => (7, true, .val x.1) :: anys [34, 35, 36, 38, 39, 40, 37, 41, 42, 43, 27, 28, 29]) (fun x => [(7, .row x.1 3 1 ((verdTo l (i + 1)).map intE)), (1050, mapRes KS8 bw x.2.1)]) (fun hJ2 => ?_) ?_
   ·
    refine zS rfl (fun hb2 => ?_) (fun hb2 => ?_)
    ·
     have ht : (knownR l).1.all (madeB l i) = true := hb2
     refine zB ?_
     refine sq rfl rfl hn rfl (zG rfl rfl) ?_
     refine stepW (zP rfl rfl rfl (nb hn rfl) Tryz.underlying22 sz3 zr3 rfl rfl rfl (show _ = [.d (.int .i64 0)] from by kernel_rfl) (by kernel_rfl) rfl rfl rfl rfl rfl) fun _ => ?_
     refine stepW (s_append (id := 7) rfl rfl rfl (nb hn rfl) elt22 trivial rfl rfl rfl (by simp [chunk]; omega) (by simp [chunk]; omega) (fun b hb => trivial)) fun v36 => ?_
     refine sq rfl rfl hn rfl (zF rfl rfl) ?_
     refine zE ?_
     exact aend_join_on hJ2 (v36, ⟨M2, hM2⟩) ⟨.inl rfl, zJ _⟩ ⟨.inl (congrArg (fun z => some (Res.row v36 3 1 z)) (zB4 (verd_all ht))), .inl rfl, trivial⟩ (by repeat (first | exact kr _ | refine kc rfl ?_)) (by repeat (first | exact kr _ | refine kc rfl ?_))
    ·
     have hf : (knownR l).1.all (madeB l i) = false := hb2
     refine zC (zB ?_)
     refine sq rfl rfl hn rfl (zG rfl rfl) ?_
     refine sq rfl rfl hn rfl (zG rfl rfl) ?_
     refine stepW (s_callE (zAh l bw (knownR l).1 (by omega) (madeB l i) 61 [.ptr [.ptr (workC8 l bw)], .ptr [.int .i64 (i : Nat)]] (fun h hh M hM => zCz l L bw M hM h (hkb.2 h hh).2 i (by omega)) M2 hM2) rfl rfl rfl (nb hn rfl) (.d rfl) rfl (.refl _) ⟨rfl, trivial⟩ (fun _ => rfl) (fun _ _ => trivial)) fun ⟨M4, hM4⟩ => ?_
     refine sq rfl rfl hn rfl (zF rfl rfl) ?_
     refine zE (zA ?_)
     refine zS rfl (fun hb3 => ?_) (fun hb3 => ?_)
     ·
      have ht : (knownR l).1.any (madeB l i) = true := hb3
      refine zB ?_
      refine sq rfl rfl hn rfl (zG rfl rfl) ?_
      refine stepW (zP rfl rfl rfl (nb hn rfl) Tryz.underlying22 sz3 zr3 rfl rfl rfl (show _ = [.d (.int .i64 0)] from by kernel_rfl) (by kernel_rfl) rfl rfl rfl rfl rfl) fun _ => ?_
      refine stepW (s_append (id := 7) rfl rfl rfl (nb hn rfl) elt22 trivial rfl rfl rfl (by simp [chunk]; omega) (by simp [chunk]; omega) (fun b hb => trivial)) fun v43 => ?_
      refine sq rfl rfl hn rfl (zF rfl rfl) ?_
      refine zE ?_
      exact aend_join_on hJ2 (v43, ⟨M4, hM4⟩) ⟨.inl rfl, zJ _⟩ ⟨.inl (congrArg (fun z => some (Res.row v43 3 1 z)) (zB4 (verd_any hf ht))), .inl rfl, trivial⟩ (by repeat (first | exact kr _ | refine kc rfl ?_)) (by repeat (first | exact kr _ | refine kc rfl ?_))
     ·
      have hf2 : (knownR l).1.any (madeB l i) = false := hb3
      refine zB ?_
      refine sq rfl rfl hn rfl (zG rfl rfl) ?_
      refine stepW (zP rfl rfl rfl (nb hn rfl) Tryz.underlying22 sz3 zr3 rfl rfl rfl (show _ = [.d (.int .i64 0)] from by kernel_rfl) (by kernel_rfl) rfl rfl rfl rfl rfl) fun _ => ?_
      refine stepW (s_append (id := 7) rfl rfl rfl (nb hn rfl) elt22 trivial rfl rfl rfl (by simp [chunk]; omega) (by simp [chunk]; omega) (fun b hb => trivial)) fun v29 => ?_
      refine sq rfl rfl hn rfl (zF rfl rfl) ?_
      refine zE ?_
      exact aend_join_on hJ2 (v29, ⟨M4, hM4⟩) ⟨.inl rfl, zJ _⟩ ⟨.inl (congrArg (fun z => some (Res.row v29 3 1 z)) (zB4 (verd_none hf hf2))), .inl rfl, trivial⟩ (by repeat (first | exact kr _ | refine kc rfl ?_)) (by repeat (first | exact kr _ | refine kc rfl ?_))
   ·
    rintro ⟨v2, M3, hM3⟩
    dsimp only
    refine za (za (zA (zB ?_)))
    refine sq rfl rfl hn rfl (z6 rfl rfl rfl (r := ((i + 1 : Nat) : Int)) (i64w (by omega) (by omega))) ?_
    refine sq rfl rfl hn rfl (zG rfl rfl) ?_
    refine zE ?_
    exact zZ ⟨(i + 1, v2, M3), by omega, hM3⟩ ⟨.inl rfl, .inl rfl, zJ _⟩ ⟨.inl rfl, .inl rfl, zX _⟩ (by simp only; omega) (by repeat (first | exact kr _ | refine kc rfl ?_)) (by repeat (first | exact kr _ | refine kc rfl ?_))
  ·
   obtain rfl : i = l.dues.length := by simp at hb1; omega
   refine zw (zK (zK (zW (zA (zC (zB ?_))))))
   refine sq rfl rfl hn rfl (zG rfl rfl) ?_
   refine sq rfl rfl hn rfl (zF rfl rfl) ?_
   refine sq rfl rfl hn rfl (zF rfl rfl) ?_
   refine zE (zA (zO ?_))
   refine kF (g_row (t := 2) (id := 7) rfl rfl) ?_
   refine zp (kL (.inl rfl) hl rfl (.tmp rfl) (.tmp rfl)) ?_
   rw [show verdX l = (verdTo l l.dues.length, 0) from if_neg (by simpa using hk0)]
end Go.Proofs.YtaokpncjemkhcaaGreat
namespace Go.Proofs.YtaokpncjemkhcaaGreat
open Go.RowKit
set_option maxRecDepth 20000
set_option linter.all false
@[reducible] def boolsT (l : List Bool) : List TV := l.map fun b => TV.d (.bool b)
theorem zAM (l : List Bool) : boolsT l = (l.map boolE).flatten.map .d := by
  induction l with
  | nil => rfl
  | cons x l ih => simp only [boolsT, List.map_cons, List.flatten_cons, List.map_append] at ih ⊢; rw [ih]; rfl
theorem zCZ {l : List Bool} : ∀ c ∈ l.map boolE, c.length = 1 := fun c hc => by obtain ⟨x, _, rfl⟩ := List.mem_map.1 hc; rfl
theorem bvec_cons {v : Value} {l : List Bool} (hV : VecV v 1 (boolsT l)) (h : 0 < l.length) : ∃ b cap, v = .slice (some ⟨b, 0, none⟩) l.length cap ∧ l.length ≤ cap ∧ cap ≤ maxLen := by
  rcases hV with ⟨_, h1⟩ | ⟨b, n, cap, rfl, h1, h2, h3⟩
  · rw [List.map_eq_nil_iff] at h1; subst h1; simp at h
  · rw [List.length_map, Nat.mul_one] at h3; subst h3; exact ⟨b, cap, rfl, h1, h2⟩
theorem boolsT_set {l : List Bool} {r : List TV} {i : Nat} (h : i < l.length) : (boolsT l ++ r).set (0 + i * 1) (.d (.bool true)) = boolsT (l.set i true) ++ r := by
  rw [Nat.zero_add, Nat.mul_one, List.set_append_left _ _ (by simpa using h)]
  unfold boolsT; rw [List.map_set]
theorem setAll_succ {lends : List Bool} {more : List Int} {i n : Nat} (h : more[i]? = some (n : Int)) : setAll lends (more.take (i + 1)) = (setAll lends (more.take i)).set n true := by
  unfold setAll
  rw [List.take_add_one, h, List.foldl_append]; rfl
/-- The ledger in which some more houses lend. -/
def withL (l : Ldg) (more : List Int) : Ldg := ⟨l.reg, l.day, setAll l.lends more, l.dues⟩
theorem withL_hok {l : Ldg} {h more : List Int} (L : Lok l) (hb : ∀ x ∈ h, 0 ≤ x ∧ x ≤ 4) : Hok (withL l more) (houN l) h := by
  have H := L.hok hb
  exact ⟨H.hN5, H.hN6, H.hh5, H.hl6, H.hq5, H.hq6, by show (setAll l.lends more).length = _; rw [zAB]; exact H.hl7⟩
theorem full_take {qs : List Due8} {i : Nat} {q : Due8} (h : qs[i]? = some q) : (fullD (qs.take i)).map intE ++ [intE q.num] = (fullD (qs.take (i + 1))).map intE := by
  rw [List.take_add_one, h]; simp [fullD]
def enP (l : Ldg) (hs : List (List Int)) (more : List Int) : Bool := wholeP (houN l) l.lends hs l.dues more
def enS (l : Ldg) (hs : List (List Int)) (k : Nat) (more : List Int) (i : Nat) : Option (List Int) := enoughS (enP l hs) (fun i => l.lends.getD i false) (houN l) k more i
theorem fr_hit {α : Type} {f : Nat → Option α} {i m n : Nat} {d : α} (h1 : i ≤ n) (h : n < i + m) (hn : ∀ k, i ≤ k → k < n → f k = none) (hd : f n = some d) : (List.range' i m).findSome? f = some d := by
  obtain ⟨a, rfl⟩ := Nat.exists_eq_add_of_le h1
  rw [List.range'_eq_map_range, List.findSome?_map]
  exact zDN (n := a) (by omega) (fun k hk => hn (i + k) (by omega) (by omega)) hd
theorem zES {α : Type} {f : Nat → Option α} {i m : Nat} (hn : ∀ k, i ≤ k → k < i + m → f k = none) : (List.range' i m).findSome? f = none := by
  rw [List.range'_eq_map_range, List.findSome?_map]
  exact zBu fun k hk => hn (i + k) (by omega) (by omega)
def enF (l : Ldg) (hs : List (List Int)) (k : Nat) (more : List Int) (h : Nat) : Option (List Int) := if l.lends.getD h false = true then none else enS l hs k (more ++ [(h : Int)]) (h + 1)
theorem enS_succ {l : Ldg} {hs : List (List Int)} {k : Nat} {more : List Int} {i : Nat} : enS l hs (k + 1) more i = (List.range' i (houN l - i)).findSome? (enF l hs k more) := rfl
theorem zDT {l : Ldg} {hs : List (List Int)} {more : List Int} {i : Nat} : enS l hs 0 more i = if enP l hs more = true then some more else none := rfl
/-- What the search leaves where the set is put. -/
def EnX (l : Ldg) (hs : List (List Int)) (k : Nat) (more : List Int) (i : Nat) : Type := {x : D // ∀ s, enS l hs k more i = some s → x = ints s}
@[reducible] def enCa (l : Ldg) (hs : List (List Int)) (bF b7 : Nat) : List TV := [.val (.pointer (some ⟨bF, 0, none⟩)), .d (.ptr (ldgC l)), .d (.ptr [handsD hs]), .val (.pointer (some ⟨b7, 0, none⟩))]
@[reducible] def enRs (l : Ldg) (hs : List (List Int)) (bF b7 : Nat) (x : D) : List (Nat × Res) := [(1071, .box bF 22 [.d x]), (1072, .box b7 137 [.fn (.func 75) [] (enCa l hs bF b7)])]
def EnOK (l : Ldg) (hs : List (List Int)) (bF b7 k : Nat) : Prop := ∀ (more : List Int) (i : Nat) (x : D), i ≤ houN l → more.length + k ≤ 100 → (∀ y ∈ more, 0 ≤ y ∧ y < (houN l : Int)) →
  EffAt Tryz.prog 75 (.d (ints more) :: .d (.int .i64 (i : Nat)) :: .d (.int .i64 (k : Nat)) :: enCa l hs bF b7) (enRs l hs bF b7 x) (X := EnX l hs k more i) (fun _ => .d (.bool (enS l hs k more i).isSome)) (fun x => enRs l hs bF b7 x.1)
theorem yc {hs : List Int} {h : Int} : ints (hs ++ [h]) = .slice 1 (hs.map intE ++ [intE h]) := yf
theorem zr50 : (Tryz.prog.info? 50).map (·.zero) = some (some (.agg #[(.int .i64 0), (.slice none 0 0), (.slice none 0 0), (.slice none 0 0), (.int .i64 0), (.slice none 0 0), (.slice none 0 0)])) := by kernel_rfl
theorem elt30 : ElT Tryz.prog 30 4 1 1 := zAs Tryz.underlying30 (z := (.bool false)) (by kernel_rfl) rfl (by decide)
theorem IndexFunc_hand (l : List (List Int)) (p : (List Int) → Bool) (g : FuncId) (fi ca : List D) (hp : ∀ x ∈ l, PureAt Tryz.prog g (fi ++ [handD x] ++ ca) (.bool (p x))) : PureAt Tryz.prog 92 [handsD l, .fn (.func g) fi ca] (.int .i64 (idxOf p l)) := by
 refine PureAt.of_awp' Tryz.func92 rfl (by kernel_rfl) rfl fun hlen Γ hn hl => ?_
 have hl5 := hlen.1; simp only [List.length_map] at hl5
 refine zC (zB ?_)
 refine sq rfl rfl hn rfl (zF rfl rfl) ?_
 refine zE (zA (zC (zC (zB ?_))))
 refine sq rfl rfl hn rfl (zG rfl rfl) ?_
 refine sq rfl rfl hn rfl (z7 rfl rfl Tryz.underlying116) ?_
 refine sq rfl rfl hn rfl (zG rfl rfl) ?_
 refine zE (zA (zV ?_))
 refine awp_loop_on (ι := { i : Nat // i ≤ l.length ∧ (l.take i).all (fun x => !p x) = true }) (fun i => (8, true, .d (.int .i64 (i.1 : Int))) :: anys [9, 10, 5, 11, 12, 13, 14, 15, 16, 18]) (fun i => []) (fun i => l.length - i.1) ⟨0, by simp⟩ ⟨.inl rfl, zJ _⟩ trivial ?_
 rintro ⟨i, hi, hall⟩
 dsimp only
 refine zC (zB ?_)
 refine sq rfl rfl hn rfl (yJ rfl rfl rfl) ?_
 refine zE (zA (zC ?_))
 refine zS rfl (fun hb0 => ?_) (fun hb0 => ?_)
 ·
  try simp only [decide_eq_true_eq, decide_eq_false_iff_not, Bool.and_eq_true, Bool.or_eq_true, Bool.and_eq_false_iff, Bool.or_eq_false_iff, Bool.not_eq_true', Bool.not_eq_false', beq_iff_eq, bne_iff_ne, ne_eq, beq_eq_false_iff_ne, bne_eq_false_iff_eq, Int.not_lt, Int.not_le] at hb0
  have hlt : i < l.length := by simpa using hb0
  obtain ⟨x, hx⟩ := z2 hlt
  refine zU (zA (zC (zV (zC (zB ?_)))))
  refine sq rfl rfl hn rfl (zG rfl rfl) ?_
  refine sq rfl rfl hn rfl (zF rfl rfl) ?_
  refine zE (zA (zC (zB ?_)))
  refine sq rfl rfl hn rfl (zG rfl rfl) ?_
  refine sq rfl rfl hn rfl (zG rfl rfl) ?_
  refine sq rfl rfl hn rfl (zG rfl rfl) ?_
  refine sq rfl rfl hn rfl (q_index rfl rfl rfl Tryz.underlying116 sz121 rfl (mget hx)) ?_
  refine sq rfl rfl hn rfl (ze rfl rfl Tryz.underlying121 rfl sz121 rfl rfl seesF0) ?_
  refine stepW (s_call [] (fun _ => hp x (List.mem_of_getElem? hx)) rfl (zI rfl) rfl (nb hn rfl) (fun _ => trivial) rfl rfl (.refl _)) fun _ => ?_
  refine zE (zA ?_)
  refine zS rfl (fun hb1 => ?_) (fun hb1 => ?_)
  ·
   try simp only [decide_eq_true_eq, decide_eq_false_iff_not, Bool.and_eq_true, Bool.or_eq_true, Bool.and_eq_false_iff, Bool.or_eq_false_iff, Bool.not_eq_true', Bool.not_eq_false', beq_iff_eq, bne_iff_ne, ne_eq, beq_eq_false_iff_ne, bne_eq_false_iff_eq, Int.not_lt, Int.not_le] at hb1
   refine zC (zB ?_)
   refine sq rfl rfl hn rfl (zG rfl rfl) ?_
   refine sq rfl rfl hn rfl (zF rfl rfl) ?_
   refine zE (zA (zO (zf (zL (zL (zf (zL ?_)))))))
   refine zp (zt (.inl rfl) hl rfl (.tmp rfl)) ?_
   rw [yu hx hall (by simpa using hb1)]
  ·
   try simp only [decide_eq_true_eq, decide_eq_false_iff_not, Bool.and_eq_true, Bool.or_eq_true, Bool.and_eq_false_iff, Bool.or_eq_false_iff, Bool.not_eq_true', Bool.not_eq_false', beq_iff_eq, bne_iff_ne, ne_eq, beq_eq_false_iff_ne, bne_eq_false_iff_eq, Int.not_lt, Int.not_le] at hb1
   refine zU (za (zA (zB ?_)))
   refine sq rfl rfl hn rfl (z6 rfl rfl rfl (r := ((i + 1 : Nat) : Int)) (i64w (by omega) (by omega))) ?_
   refine sq rfl rfl hn rfl (zG rfl rfl) ?_
   refine zE ?_
   exact zZ ⟨i + 1, by omega, yN hx hall (by simp [hb1])⟩ ⟨.inl rfl, zJ _⟩ trivial (by simp only; omega) (by repeat (first | exact kr _ | refine kc rfl ?_)) (by repeat (first | exact kr _ | refine kc rfl ?_))
 ·
  try simp only [decide_eq_true_eq, decide_eq_false_iff_not, Bool.and_eq_true, Bool.or_eq_true, Bool.and_eq_false_iff, Bool.or_eq_false_iff, Bool.not_eq_true', Bool.not_eq_false', beq_iff_eq, bne_iff_ne, ne_eq, beq_eq_false_iff_ne, bne_eq_false_iff_eq, Int.not_lt, Int.not_le] at hb0
  refine zw (zK (zK (zW (zA (zC (zB ?_))))))
  refine sq rfl rfl hn rfl (zF rfl rfl) ?_
  refine zE (zA (zO ?_))
  refine zp (zt (.inl rfl) hl rfl (.tmp rfl)) ?_
  have hi2 : i = l.length := by simp only [List.length_map] at hb0; omega
  subst hi2; rw [List.take_length] at hall; rw [ye hall]
theorem ContainsFunc_hand (l : List (List Int)) (p : (List Int) → Bool) (g : FuncId) (fi ca : List D) (hp : ∀ x ∈ l, PureAt Tryz.prog g (fi ++ [handD x] ++ ca) (.bool (p x))) : PureAt Tryz.prog 64 [handsD l, .fn (.func g) fi ca] (.bool (l.any p)) := by
 refine PureAt.of_awp Tryz.func64 rfl (by kernel_rfl) (Nat.le_of_ble_eq_true rfl) fun Γ hn hl => ?_
 refine zC (zB ?_)
 refine sq rfl rfl hn rfl (zF rfl rfl) ?_
 refine zE (zA (zC (zB ?_)))
 refine sq rfl rfl hn rfl (zG rfl rfl) ?_
 refine sq rfl rfl hn rfl (zG rfl rfl) ?_
 refine stepW (s_call [] (fun _ => IndexFunc_hand l p g fi ca hp) rfl (zI rfl) rfl (nb hn rfl) (fun _ => trivial) rfl rfl (.refl _)) fun _ => ?_
 refine sq rfl rfl hn rfl (zCP rfl rfl rfl) ?_
 refine sq rfl rfl hn rfl (zF rfl rfl) ?_
 refine zE (zA (zO ?_))
 refine zp (zt (.inl rfl) hl rfl (.tmp rfl)) ?_
 rw [yU]
theorem all1_hand (x : (List Int)) (b : Bool) (g : FuncId) (fi ca : List D) (hp : PureAt Tryz.prog g (fi ++ [handD x] ++ ca) (.bool b)) : PureAt Tryz.prog 91 [handD x, .ptr [.fn (.func g) fi ca]] (.bool (!b)) := by
 refine PureAt.of_awp Tryz.func91 rfl (by kernel_rfl) (Nat.le_of_ble_eq_true rfl) fun Γ hn hl => ?_
 refine zC (zB ?_)
 refine stepW (zr 2 rfl rfl rfl (nb hn rfl) rfl rfl) fun b2 => ?_
 refine sq rfl rfl hn rfl (zF rfl rfl) ?_
 refine zE (zA (zC (zB ?_)))
 refine sq rfl rfl hn rfl (zR rfl rfl Tryz.underlying125 rfl seesF0) ?_
 refine sq rfl rfl hn rfl (zY rfl rfl (id := 2) rfl Tryz.underlying121 rfl sz121 rfl rfl sees0) ?_
 refine stepW (s_call [] (fun _ => hp) rfl (zI rfl) rfl (nb hn rfl) (fun _ => trivial) rfl rfl (.refl _)) fun _ => ?_
 refine sq rfl rfl hn rfl (yF rfl rfl) ?_
 refine sq rfl rfl hn rfl (zF rfl rfl) ?_
 refine zE (zA (zO ?_))
 exact zt (.inl rfl) hl rfl (.tmp rfl)
theorem all_hand (l : List (List Int)) (p : (List Int) → Bool) (g : FuncId) (fi ca : List D) (hp : ∀ x ∈ l, PureAt Tryz.prog g (fi ++ [handD x] ++ ca) (.bool (p x))) : PureAt Tryz.prog 63 [handsD l, .fn (.func g) fi ca] (.bool (l.all p)) := by
 refine PureAt.of_awp Tryz.func63 rfl (by kernel_rfl) (Nat.le_of_ble_eq_true rfl) fun Γ hn hl => ?_
 refine zC (zB ?_)
 refine stepW (zr 3 rfl rfl rfl (nb hn rfl) rfl rfl) fun b3 => ?_
 refine sq rfl rfl hn rfl (zF rfl rfl) ?_
 refine zE (zA (zC (zB ?_)))
 refine sq rfl rfl hn rfl (zG rfl rfl) ?_
 refine kM (zn (t := 3) 3 rfl (nb hn rfl) rfl rfl trivial) ?_
 refine sq rfl rfl hn rfl (yE rfl rfl rfl) ?_
 refine stepW (s_call [] (fun _ => ContainsFunc_hand l (fun x => !p x) _ [] [.ptr [.fn (.func g) fi ca]] (fun x hx => all1_hand x _ g fi ca (hp x hx))) rfl (zI rfl) rfl (nb hn rfl) (fun _ => trivial) rfl rfl (.refl _)) fun _ => ?_
 refine sq rfl rfl hn rfl (yF rfl rfl) ?_
 refine sq rfl rfl hn rfl (zF rfl rfl) ?_
 refine zE (zA (zO ?_))
 refine zp (zt (.inl rfl) hl rfl (.tmp rfl)) ?_
 rw [List.all_eq_not_any_not]
theorem clone8_bool (l : List Bool) (h5 : l.length ≤ 1000) (hne : l ≠ []) : EffAt Tryz.prog 105 [.d (boolsD l)] [] (X := {v : Value // VecV v 1 (boolsT l)}) (fun v => .val v.1) (fun v => [(1060, vecRes 4 v.1 1 (boolsT l))]) := by
 refine EffAt.of_awp Tryz.func105 rfl (by kernel_rfl) rfl fun Γ hn => ?_
 refine zC (zB ?_)
 refine sq rfl rfl hn rfl (zF rfl rfl) ?_
 refine zE (zA (zC (zC (zB ?_))))
 refine sq rfl rfl hn rfl (zG rfl rfl) ?_
 refine stepW (s_eqlNil rfl rfl rfl (nb hn rfl) Tryz.underlying30 rfl) fun ⟨nil4, hnil4⟩ => ?_
 refine zE (zA ?_)
 refine zS rfl (fun hb0 => ?_) (fun hb0 => ?_)
 ·
  exact absurd (hnil4 hb0) (by simpa using hne)
 ·
  refine zU (zA (zC (zB ?_)))
  refine stepW (zAm 1060 rfl rfl rfl (nb hn rfl) Tryz.underlying30 sz4 zr4 rfl rfl (show _ = [] from by kernel_rfl) (by kernel_rfl) rfl rfl) fun b5 => ?_
  refine sq rfl rfl hn rfl (zG rfl rfl) ?_
  refine stepW (zAb (id := 1060) rfl rfl rfl (nb hn rfl) elt30 zr4 rfl (show VecV (.slice (some ⟨b5, 0, none⟩) 0 0) 1 [] from .inr ⟨b5, 0, 0, rfl, Nat.le_refl _, by decide, rfl⟩) rfl rfl rfl (by simp [chunk]; omega) (by simp [chunk]; omega) (fun _ _ => trivial)) fun ⟨v7, hV7⟩ => ?_
  refine sq rfl rfl hn rfl (zF rfl rfl) ?_
  refine zE (zA (zO ?_))
  exact ret_E (.inl rfl) ⟨v7, by rw [zAM]; exact hV7⟩ (yB rfl (.tmp rfl)) ⟨(congrArg (fun z => some (vecRes 4 v7 1 z)) (zAM l).symm), trivial⟩
theorem whole1_ok (x : Ldg) (N : Nat) (h d : List Int) (H : Hok x N h) (hd : ∀ y ∈ d, 0 ≤ y ∧ y ≤ 4) (hl5 : d.length = x.dues.length) : PureAt Tryz.prog 106 [handD h, .ptr (ldgC x), .ptr [ints d]] (.bool (canL x N h d)) := by
 refine PureAt.of_awp Tryz.func106 rfl (by kernel_rfl) (Nat.le_of_ble_eq_true rfl) fun Γ hn hl => ?_
 refine zC (zB ?_)
 refine stepW (zr 3 rfl rfl rfl (nb hn rfl) rfl rfl) fun b3 => ?_
 refine sq rfl rfl hn rfl (zF rfl rfl) ?_
 refine zE (zA (zC (zB ?_)))
 refine sq rfl rfl hn rfl (ze rfl rfl Tryz.underlying50 rfl sz50 rfl rfl seesF0) ?_
 refine sq rfl rfl hn rfl (zY rfl rfl (id := 3) rfl Tryz.underlying121 rfl sz121 rfl rfl sees0) ?_
 refine sq rfl rfl hn rfl (zR rfl rfl Tryz.underlying22 rfl seesF0) ?_
 refine stepW (s_call [] (fun _ => zD3 H d hd hl5) rfl (zI rfl) rfl (nb hn rfl) (fun _ => trivial) rfl rfl (.refl _)) fun _ => ?_
 refine sq rfl rfl hn rfl (zF rfl rfl) ?_
 refine zE (zA (zO ?_))
 exact zt (.inl rfl) hl rfl (.tmp rfl)
theorem whole8_ok (l : Ldg) (L : Lok l) (hs : List (List Int)) (hhs : ∀ h ∈ hs, HsOK l h) (more : List Int) (hm : ∀ y ∈ more, 0 ≤ y ∧ y < (houN l : Int)) (hml : more.length ≤ 100) : PureAt Tryz.prog 76 [ldgD l, handsD hs, ints more] (.bool (enP l hs more)) := by
 have hdl := L.dl; have hln := L.ln; have hN := L.hN
 have hne : l.lends ≠ [] := by (rintro e; rw [e] at hln; simp at hln; omega)
 refine PureAt.of_awp Tryz.func76 rfl (by kernel_rfl) (Nat.le_of_ble_eq_true rfl) fun Γ hn hl => ?_
 refine zC (zB ?_)
 refine stepW (zr 3 rfl rfl rfl (nb hn rfl) rfl rfl) fun b3 => ?_
 refine sq rfl rfl hn rfl (zF rfl rfl) ?_
 refine zE (zA (zC ?_))
 refine zx (zn (t := 3) 3 rfl (nb hn rfl) rfl rfl trivial) ?_
 refine zB ?_
 refine sq rfl rfl hn rfl (ze rfl rfl Tryz.underlying50 rfl sz50 rfl rfl seesF0) ?_
 refine stepW (zh 7 rfl rfl rfl (nb hn rfl) zr50 rfl rfl) fun b7 => ?_
 refine stepW (zl rfl rfl rfl rfl rfl rfl (id := 7) rfl sz50 rfl (Nat.le_of_ble_eq_true rfl) rfl trivial) fun _ => ?_
 refine zE (zA (zC (zB ?_)))
 refine sq rfl rfl hn rfl (zN rfl rfl Tryz.underlying50 rfl sz30 rfl) ?_
 refine sq rfl rfl hn rfl (zR rfl rfl Tryz.underlying30 rfl seesF0) ?_
 refine stepW (s_callE (clone8_bool l.lends (by omega) hne) rfl rfl rfl (nb hn rfl) (.d rfl) rfl (.refl _) trivial (fun _ => rfl) (fun _ _ => trivial)) fun ⟨vc, hVc⟩ => ?_
 obtain ⟨bc, cap, rfl, hcap, hcm⟩ := bvec_cons hVc (by omega)
 refine sq rfl rfl hn rfl (zH rfl rfl Tryz.underlying50 rfl sz30) ?_
 refine stepW (s_store1 rfl rfl rfl rfl rfl rfl (id := 7) rfl sz30 (Nat.le_of_ble_eq_true rfl) rfl trivial) fun _ => ?_
 refine zE (zA (zC (zC (zB ?_))))
 refine sq rfl rfl hn rfl (zG rfl rfl) ?_
 refine sq rfl rfl hn rfl (z7 rfl rfl Tryz.underlying22) ?_
 refine sq rfl rfl hn rfl (zG rfl rfl) ?_
 refine zE (zA (zV ?_))
 refine awp_loop_on (ι := {x : Nat // x ≤ more.length}) (fun x => (20, true, .d (.int .i64 (x.1 : Nat))) :: anys [21, 22, 23, 9, 24, 25, 26, 27, 28]) (fun x => [(1060, .box bc 4 (boolsT (setAll l.lends (more.take x.1)) ++ List.replicate ((cap - l.lends.length) * 1) .any))]) (fun x => more.length - x.1) ⟨0, Nat.zero_le _⟩ ⟨.inl rfl, zJ _⟩ ⟨.inl rfl, trivial⟩ ?_
 rintro ⟨i, hi⟩
 dsimp only
 refine zC (zB ?_)
 refine sq rfl rfl hn rfl (yJ rfl rfl rfl) ?_
 refine zE (zA (zC ?_))
 refine zS rfl (fun hb0 => ?_) (fun hb0 => ?_)
 ·
  have hil : i < more.length := by simpa using hb0
  obtain ⟨z, hz⟩ := z2 hil
  have hzb := hm z (List.mem_of_getElem? hz)
  obtain ⟨n, rfl⟩ : ∃ n : Nat, z = (n : Int) := ⟨z.toNat, by omega⟩
  have hsl := zAB (more.take i) l.lends
  have hss := setAll_succ (lends := l.lends) hz
  refine zU (zA (zC (zV (zC (zB ?_)))))
  refine sq rfl rfl hn rfl (q_index (i := i) rfl rfl rfl Tryz.underlying22 sz3 rfl (mget hz)) ?_
  refine sq rfl rfl hn rfl (zR rfl rfl Tryz.underlying3 rfl seesF0) ?_
  refine sq rfl rfl hn rfl (zF rfl rfl) ?_
  refine zE (zA (zB ?_))
  refine sq rfl rfl hn rfl (zH rfl rfl Tryz.underlying50 rfl sz30) ?_
  refine sq rfl rfl hn rfl (zQ rfl rfl (id := 7) rfl Tryz.underlying30 rfl rfl sees0) ?_
  refine sq rfl rfl hn rfl (zG rfl rfl) ?_
  refine sq rfl rfl hn rfl (q_indexV (i := n) rfl rfl rfl Tryz.underlying30 sz4 rfl (by omega)) ?_
  refine stepW (s_store1 rfl rfl rfl rfl rfl rfl (id := 1060) rfl sz4 (by show 0 + n * 1 < _; rw [List.length_append, List.length_map]; omega) ((boolsT_set (by omega)).trans (congrArg (fun z => boolsT z ++ List.replicate ((cap - l.lends.length) * 1) .any) hss.symm)) trivial) fun _ => ?_
  refine zE (za (zA (zB ?_)))
  refine sq rfl rfl hn rfl (z6 rfl rfl rfl (r := ((i + 1 : Nat) : Int)) (i64w (by omega) (by omega))) ?_
  refine sq rfl rfl hn rfl (zG rfl rfl) ?_
  refine zE ?_
  exact zZ ⟨i + 1, by omega⟩ ⟨.inl rfl, zJ _⟩ ⟨.inl rfl, trivial⟩ (by simp only; omega) (by repeat (first | exact kr _ | refine kc rfl ?_)) (by repeat (first | exact kr _ | refine kc rfl ?_))
 ·
  obtain rfl : i = more.length := by simp at hb0; omega
  rw [List.take_length]
  refine zw (zK (zK (zW (zA (zC (zB ?_))))))
  refine stepW (zh 10 rfl rfl rfl (nb hn rfl) zr22 rfl rfl) fun b10 => ?_
  refine zE (zA (zC (zC ?_)))
  refine zx (gh_nilcell (id := 10) (k := 0) 1061 3 1 rfl rfl) ?_
  refine zB ?_
  refine sq rfl rfl hn rfl (zN rfl rfl Tryz.underlying50 rfl sz48 rfl) ?_
  refine sq rfl rfl hn rfl (zR rfl rfl Tryz.underlying48 rfl seesF0) ?_
  refine sq rfl rfl hn rfl (z7 rfl rfl Tryz.underlying48) ?_
  refine sq rfl rfl hn rfl (zG rfl rfl) ?_
  refine zE (zA (zV ?_))
  refine awp_loop_on (ι := {x : Nat × Value // x.1 ≤ l.dues.length}) (fun x => (32, true, .d (.int .i64 (x.1.1 : Nat))) :: anys [33, 34, 35, 12, 36, 37, 38, 39, 40, 41]) (fun x => (10, .box b10 22 [.val x.1.2]) :: (1061, .row x.1.2 3 1 ((fullD (l.dues.take x.1.1)).map intE)) :: gones [12]) (fun x => l.dues.length - x.1.1) ⟨(0, _), Nat.zero_le _⟩ ⟨.inl rfl, zJ _⟩ ⟨.inl rfl, .inl rfl, zX _⟩ ?_
  rintro ⟨⟨i, vv⟩, hi⟩
  dsimp only
  dsimp only at hi
  have hfl : (fullD (l.dues.take i)).length ≤ 6 := by rw [zDY, List.length_take]; omega
  refine zC (zB ?_)
  refine sq rfl rfl hn rfl (yJ rfl rfl rfl) ?_
  refine zE (zA (zC ?_))
  refine zS rfl (fun hb1 => ?_) (fun hb1 => ?_)
  ·
   have hil : i < l.dues.length := by simpa using hb1
   obtain ⟨q, hq⟩ := z2 hil
   refine zU (zA (zC (zV (zC (zB ?_)))))
   refine sq rfl rfl hn rfl (q_index (i := i) rfl rfl rfl Tryz.underlying48 sz88 rfl (mget hq)) ?_
   refine sq rfl rfl hn rfl (ze rfl rfl Tryz.underlying88 rfl sz88 rfl rfl seesF0) ?_
   refine stepW (zh 12 rfl rfl rfl (nb hn rfl) zr88 rfl rfl) fun b12 => ?_
   refine stepW (zl rfl rfl rfl rfl rfl rfl (id := 12) rfl sz88 rfl (Nat.le_of_ble_eq_true rfl) rfl trivial) fun _ => ?_
   refine zE (zA (zB ?_))
   refine sq rfl rfl hn rfl (zQ rfl rfl (id := 10) rfl Tryz.underlying22 rfl rfl sees0) ?_
   refine sq rfl rfl hn rfl (zH rfl rfl Tryz.underlying88 rfl sz3) ?_
   refine sq rfl rfl hn rfl (zQ rfl rfl (id := 12) rfl Tryz.underlying3 rfl rfl sees0) ?_
   refine stepW (zP rfl rfl rfl (nb hn rfl) Tryz.underlying22 sz3 zr3 rfl rfl rfl (show _ = [.d (.int .i64 0)] from by kernel_rfl) (by kernel_rfl) rfl rfl rfl rfl rfl) fun _ => ?_
   refine stepW (s_append (id := 1061) rfl rfl rfl (nb hn rfl) elt22 trivial rfl rfl rfl (by simp [chunk]; omega) (by simp [chunk]; omega) (fun b hb => trivial)) fun v40 => ?_
   refine stepW (s_storeRow rfl rfl rfl rfl rfl (rid := 1061) rfl (id := 10) rfl sz22 (Nat.le_of_ble_eq_true rfl) rfl trivial) fun _ => ?_
   refine zE (za (zA (zB ?_)))
   refine sq rfl rfl hn rfl (z6 rfl rfl rfl (r := ((i + 1 : Nat) : Int)) (i64w (by omega) (by omega))) ?_
   refine sq rfl rfl hn rfl (zG rfl rfl) ?_
   refine zE ?_
   exact zZ ⟨(i + 1, v40), by omega⟩ ⟨.inl rfl, zJ _⟩ ⟨.inl rfl, .inl (congrArg (fun z => some (Res.row v40 3 1 z)) (full_take hq)), zX _⟩ (by simp only; omega) (by repeat (first | exact kr _ | refine kc rfl ?_)) (by repeat (first | exact kr _ | refine kc rfl ?_))
  ·
   obtain rfl : i = l.dues.length := by simp at hb1; omega
   rw [List.take_length]
   have hsl := zAB more l.lends
   refine zw (zK (zK (zW (zA (zC ?_)))))
   refine zx (gh_veccell (id := 7) (k := 5) (rid := 1060) (es := (setAll l.lends more).map boolE) (ds := ((setAll l.lends more).map boolE).flatten) (n := l.lends.length) (sz := 1) (rest := List.replicate ((cap - l.lends.length) * 1) .any) rfl rfl (by rw [← zAM]; rfl) rfl (by rw [zBS zCZ, List.length_map]; omega) (by have := zAG (k := 1) (rows := (setAll l.lends more).map boolE) zCZ; rw [List.length_map, hsl] at this; exact this) hcap hcm) ?_
   refine zx (gh_rowcell (id := 10) (k := 0) (rid := 1061) rfl rfl rfl) ?_
   refine zx (zn (t := 7) 7 rfl (nb hn rfl) rfl rfl trivial) ?_
   refine zx (zn (t := 10) 10 rfl (nb hn rfl) rfl rfl trivial) ?_
   refine zB ?_
   refine sq rfl rfl hn rfl (zG rfl rfl) ?_
   refine sq rfl rfl hn rfl (yE rfl rfl rfl) ?_
   refine stepW (s_call [] (fun _ => all_hand hs (fun h => canL (withL l more) (houN l) h (fullD l.dues)) 106 [] [.ptr (ldgC (withL l more)), .ptr [ints (fullD l.dues)]] (fun h hh => whole1_ok (withL l more) (houN l) h (fullD l.dues) (withL_hok L (hhs h hh).2) (fullD_bd fun q hq => by have := L.dq q hq; omega) zDY)) rfl (zI rfl) rfl (nb hn rfl) (fun _ => trivial) rfl rfl (.refl _)) fun _ => ?_
   refine sq rfl rfl hn rfl (zF rfl rfl) ?_
   refine zE (zA (zO ?_))
   refine zp (zt (.inl rfl) hl rfl (.tmp rfl)) ?_
   rfl
end Go.Proofs.YtaokpncjemkhcaaGreat
namespace Go.Proofs.YtaokpncjemkhcaaGreat
open Go.RowKit
set_option maxRecDepth 20000
set_option linter.all false
theorem enX_none {l : Ldg} {hs : List (List Int)} {k : Nat} {more : List Int} {i : Nat} {x : D} (h : enS l hs k more i = none) : ∀ s, enS l hs k more i = some s → x = ints s := fun s hs => by rw [h] at hs; cases hs
theorem enF_lend {l : Ldg} {hs : List (List Int)} {k : Nat} {more : List Int} {h : Nat} (hb : l.lends.getD h false = true) : enF l hs k more h = none := if_pos hb
theorem enF_not {l : Ldg} {hs : List (List Int)} {k : Nat} {more : List Int} {h : Nat} (hb : l.lends.getD h false = false) : enF l hs k more h = enS l hs k (more ++ [(h : Int)]) (h + 1) := if_neg (by rw [hb]; simp)
theorem zEO (l : Ldg) (L : Lok l) (hs : List (List Int)) (hhs : ∀ h ∈ hs, HsOK l h) (bF b7 k : Nat) (ih : ∀ k1, k = k1 + 1 → EnOK l hs bF b7 k1) (more : List Int) (i : Nat) (x : D) (hi5 : i ≤ houN l) (hk5 : more.length + k ≤ 100) (hm5 : ∀ y ∈ more, 0 ≤ y ∧ y < (houN l : Int)) : EffAt Tryz.prog 75 (.d (ints more) :: .d (.int .i64 (i : Nat)) :: .d (.int .i64 (k : Nat)) :: enCa l hs bF b7) (enRs l hs bF b7 x) (X := EnX l hs k more i) (fun _ => .d (.bool (enS l hs k more i).isSome)) (fun x => enRs l hs bF b7 x.1) := by
 have hN := L.hN
 have hln := L.ln
 refine EffAt.of_awp Tryz.func75 rfl (by kernel_rfl) rfl fun Γ hn => ?_
 refine zC (zB ?_)
 refine sq rfl rfl hn rfl (zF rfl rfl) ?_
 refine zE (zA (zC (zC (zB ?_))))
 refine sq rfl rfl hn rfl (zG rfl rfl) ?_
 refine sq rfl rfl hn rfl (yG rfl rfl rfl) ?_
 refine zE (zA ?_)
 refine zS rfl (fun hb0 => ?_) (fun hb0 => ?_)
 ·
  obtain rfl : k = 0 := by simpa using hb0
  refine zC (zB ?_)
  refine sq rfl rfl hn rfl (zG rfl rfl) ?_
  refine stepW (s_store1 rfl rfl rfl rfl rfl rfl (id := 1071) rfl sz22 (Nat.le_of_ble_eq_true rfl) rfl trivial) fun _ => ?_
  refine zE (zA (zC (zB ?_)))
  refine sq rfl rfl hn rfl (ze rfl rfl Tryz.underlying50 rfl sz50 rfl rfl seesF0) ?_
  refine sq rfl rfl hn rfl (zR rfl rfl Tryz.underlying116 rfl seesF0) ?_
  refine sq rfl rfl hn rfl (zG rfl rfl) ?_
  refine stepW (s_call [] (fun _ => whole8_ok l L hs hhs more hm5 (by omega)) rfl (zI rfl) rfl (nb hn rfl) (fun _ => trivial) rfl rfl (.refl _)) fun _ => ?_
  refine sq rfl rfl hn rfl (zF rfl rfl) ?_
  refine zE (zA (zO (zL ?_)))
  exact ret_E (.inl rfl) ⟨ints more, fun s h2 => by rw [zDT] at h2; split at h2; (cases h2; rfl); cases h2⟩ ((yB rfl (.tmp rfl)).eq (by rw [zDT]; cases enP l hs more <;> rfl)) ⟨rfl, rfl, trivial⟩
 ·
  obtain ⟨k1, rfl⟩ : ∃ k1, k = k1 + 1 := ⟨k - 1, by (have : k ≠ 0 := by simpa using hb0); omega⟩
  have hst := enS_succ (l := l) (hs := hs) (k := k1) (more := more) (i := i)
  refine zU (zA (zC (zC (zB ?_))))
  refine sq rfl rfl hn rfl (zG rfl rfl) ?_
  refine sq rfl rfl hn rfl (zF rfl rfl) ?_
  refine zE (zA (zV ?_))
  refine awp_loop_on (ι := {x : Nat × D // i ≤ x.1 ∧ x.1 ≤ houN l ∧ ∀ h, i ≤ h → h < x.1 → enF l hs k1 more h = none}) (fun x => (11, true, .d (.int .i64 (x.1.1 : Nat))) :: anys [20, 21, 22, 23, 24, 27, 28, 29, 30, 31, 32, 33, 34, 35, 36, 37, 38, 39, 40, 41, 42, 43, 44, 45, 25, 26]) (fun x => (1071, .box bF 22 [.d x.1.2]) :: (1072, .box b7 137 [.fn (.func 75) [] (enCa l hs bF b7)]) :: gones [1021]) (fun x => houN l - x.1.1) ⟨(i, x), Nat.le_refl _, hi5, fun h h1 h2 => by omega⟩ ⟨.inl rfl, zJ _⟩ ⟨.inl rfl, .inl rfl, zX _⟩ ?_
  rintro ⟨⟨h, x1⟩, hih, hhN, hno⟩
  dsimp only
  dsimp only at hih hhN hno
  refine zC (zC (zB ?_))
  refine sq rfl rfl hn rfl (zG rfl rfl) ?_
  refine sq rfl rfl hn rfl (zN rfl rfl Tryz.underlying50 rfl sz44 rfl) ?_
  refine sq rfl rfl hn rfl (zN rfl rfl Tryz.underlying44 rfl sz3 rfl) ?_
  refine sq rfl rfl hn rfl (zR rfl rfl Tryz.underlying3 rfl seesF0) ?_
  refine sq rfl rfl hn rfl (yJ rfl rfl rfl) ?_
  refine zE (zA ?_)
  refine zS rfl (fun hb1 => ?_) (fun hb1 => ?_)
  ·
   have hlt : h < houN l := by simp only [decide_eq_true_eq] at hb1; omega
   obtain ⟨bl, hbl⟩ := z2 (show h < l.lends.length by omega)
   have hld : l.lends.getD h false = bl := by simp [List.getD_eq_getElem?_getD, hbl]
   refine zU (zA (zC (zV (zC ?_))))
   cases bl
   ·
    have hef := enF_not (hs := hs) (k := k1) (more := more) hld
    refine yR (e := .normal) (ι := EnX l hs k1 (more ++ [(h : Int)]) (h + 1)) (fun x => (45, true, .d (.bool (enS l hs k1 (more ++ [(h : Int)]) (h + 1)).isSome)) :: anys [27, 28, 29, 30, 31, 32, 33, 34, 35, 36, 37, 38, 39, 40, 41, 42, 43, 44]) (fun x => (1071, .box bF 22 [.d x.1]) :: (1072, .box b7 137 [.fn (.func 75) [] (enCa l hs bF b7)]) :: gones [1021]) (fun hJ2 => ?_) ?_
    ·
     refine yC (W := fun b => True) fmo ?_
     refine d1q (i := 0) rfl (by kernel_rfl) (fun _ _ _ _ h => h) rfl rfl hn rfl (zN rfl rfl Tryz.underlying50 rfl sz30 rfl) ?_
     refine d1q (i := 1) rfl (by kernel_rfl) (fun _ _ _ _ h => h) rfl rfl hn rfl (zR rfl rfl Tryz.underlying30 rfl seesFA) ?_
     refine d1q (i := 2) rfl (by kernel_rfl) (fun _ _ _ _ h => h) rfl rfl hn rfl (zG rfl rfl) ?_
     refine d1q (i := 3) rfl (by kernel_rfl) (fun _ _ _ _ h => h) rfl rfl hn rfl (q_index (i := h) rfl rfl rfl Tryz.underlying30 sz4 rfl (mget hbl)) ?_
     refine d1q (i := 4) rfl (by kernel_rfl) (fun _ _ _ _ h => h) rfl rfl hn rfl (zR rfl rfl Tryz.underlying4 rfl seesFA) ?_
     refine d1q (i := 5) rfl (by kernel_rfl) (fun _ _ _ _ h => h) rfl rfl hn rfl (yF rfl rfl) ?_
     refine d1q (i := 6) rfl (by kernel_rfl) (fun _ _ _ _ h => h) rfl rfl hn rfl (zG rfl rfl) ?_
     refine d1g (i := 8) [] rfl (by kernel_rfl) (fun _ _ _ _ h => h) (zD rfl rfl rfl) rfl hn rfl (fun _ => trivial) (fun _ => zG rfl rfl) ?_
     refine d1g (i := 10) [] rfl (by kernel_rfl) (fun _ _ _ _ h => h) (zD rfl rfl rfl) rfl hn rfl (fun _ => trivial) (fun _ => zG rfl rfl) ?_
     refine d1g (i := 13) [] rfl (by kernel_rfl) (fun _ _ _ _ h => h) (zD rfl rfl rfl) rfl hn rfl (fun _ => trivial) (fun _ => zG rfl rfl) ?_
     refine d1g (i := 14) [] rfl (by kernel_rfl) (fun _ _ _ _ h => h) (zD rfl rfl rfl) rfl hn rfl (fun _ => trivial) (fun _ => z6 rfl rfl rfl (r := ((h + 1 : Nat) : Int)) (i64w (by omega) (by omega))) ?_
     refine d1g (i := 15) [] rfl (by kernel_rfl) (fun _ _ _ _ h => h) (zD rfl rfl rfl) rfl hn rfl (fun _ => trivial) (fun _ => zG rfl rfl) ?_
     refine d1g (i := 16) [] rfl (by kernel_rfl) (fun _ _ _ _ h => h) (zD rfl rfl rfl) rfl hn rfl (fun _ => trivial) (fun _ => zAl rfl rfl rfl (r := (k1 : Int)) (i64w (by omega) (by omega))) ?_
     refine zM ?_
     refine yx 7 [9, 11] (by kernel_rfl) ⟨?_, ?_, ?_, trivial⟩
     ·
      refine br rfl (yA _ [] (zD rfl rfl rfl) rfl (nb hn rfl) (fun _ => trivial) (fun _ => zQ rfl rfl (id := 1072) rfl Tryz.underlying137 rfl rfl sees0)) fun _ => ?_
      refine d2_of_d1 (zM ?_)
      refine yx 9 [11] (by kernel_rfl) ⟨?_, ?_, trivial⟩
      ·
       refine br rfl (s_guardT (zD rfl rfl rfl) rfl (s_callE (yP more (by omega)) rfl rfl rfl (nb hn rfl) (.d rfl) rfl (.refl _) trivial (fun _ => rfl) (fun _ _ => trivial))) fun vc => ?_
       refine d2_of_d1 (zM ?_)
       refine zk (i := 11) (by kernel_rfl) rfl (s_guardT (zD rfl rfl rfl) rfl (zP rfl rfl rfl (nb hn rfl) Tryz.underlying22 sz3 zr3 rfl rfl rfl (show _ = [.d (.int .i64 0)] from by kernel_rfl) (by kernel_rfl) rfl rfl rfl rfl rfl)) fun _ => ?_
       refine d2_of_d1 (zM ?_)
       refine zk (i := 12) (by kernel_rfl) rfl (s_guardT (zD rfl rfl rfl) rfl (s_append (id := 1021) rfl rfl rfl (nb hn rfl) elt22 trivial rfl rfl rfl (by simp [chunk]; omega) (by simp [chunk]; omega) (fun b hb => trivial))) fun v39 => ?_
       refine d2_of_d1 (zM ?_)
       have hcall := ih k1 rfl (more ++ [(h : Int)]) (h + 1) x1 (by omega) (by rw [List.length_append, List.length_singleton]; omega) (fun y hy => by rcases List.mem_append.1 hy with hy | hy; exact hm5 y hy; (rw [List.mem_singleton] at hy; omega))
       rw [yc] at hcall
       refine zAR (g_row (t := 39) (id := 1021) rfl rfl) ?_
       refine zk (i := 17) (by kernel_rfl) rfl (s_guardT (zD rfl rfl rfl) rfl (s_callE (hcall) rfl rfl rfl (nb hn rfl) (.t rfl) rfl (.refl _) ⟨rfl, rfl, trivial⟩ (fun _ => rfl) (fun _ _ => trivial))) fun ⟨x2, hx2⟩ => ?_
       refine d2_of_d1 ?_
       refine d1q (i := 18) rfl (by kernel_rfl) (fun _ _ _ _ h => h) rfl rfl hn rfl (zy rfl rfl rfl (by intro hB; first | (rw [hB]; rfl) | (rw [hB, hc]; rfl) | simp_all)) ?_
       refine zM ?_
       refine zv (by kernel_rfl) ?_
       exact aend_join_on hJ2 ⟨x2, hx2⟩ ⟨.inl rfl, zJ _⟩ ⟨.inl rfl, .inl rfl, zX _⟩ (by repeat (first | exact kr _ | refine kc rfl ?_)) (by repeat (first | exact kr _ | refine kc rfl ?_))
      ·
       refine br rfl (s_guardT (zD rfl rfl rfl) rfl (zP rfl rfl rfl (nb hn rfl) Tryz.underlying22 sz3 zr3 rfl rfl rfl (show _ = [.d (.int .i64 0)] from by kernel_rfl) (by kernel_rfl) rfl rfl rfl rfl rfl)) fun _ => ?_
       refine d2_of_d1 (zM ?_)
       refine zk (i := 9) (by kernel_rfl) rfl (s_guardT (zD rfl rfl rfl) rfl (s_callE (yP more (by omega)) rfl rfl rfl (nb hn rfl) (.d rfl) rfl (.refl _) trivial (fun _ => rfl) (fun _ _ => trivial))) fun vc => ?_
       refine d2_of_d1 (zM ?_)
       refine zk (i := 12) (by kernel_rfl) rfl (s_guardT (zD rfl rfl rfl) rfl (s_append (id := 1021) rfl rfl rfl (nb hn rfl) elt22 trivial rfl rfl rfl (by simp [chunk]; omega) (by simp [chunk]; omega) (fun b hb => trivial))) fun v39 => ?_
       refine d2_of_d1 (zM ?_)
       have hcall := ih k1 rfl (more ++ [(h : Int)]) (h + 1) x1 (by omega) (by rw [List.length_append, List.length_singleton]; omega) (fun y hy => by rcases List.mem_append.1 hy with hy | hy; exact hm5 y hy; (rw [List.mem_singleton] at hy; omega))
       rw [yc] at hcall
       refine zAR (g_row (t := 39) (id := 1021) rfl rfl) ?_
       refine zk (i := 17) (by kernel_rfl) rfl (s_guardT (zD rfl rfl rfl) rfl (s_callE (hcall) rfl rfl rfl (nb hn rfl) (.t rfl) rfl (.refl _) ⟨rfl, rfl, trivial⟩ (fun _ => rfl) (fun _ _ => trivial))) fun ⟨x2, hx2⟩ => ?_
       refine d2_of_d1 ?_
       refine d1q (i := 18) rfl (by kernel_rfl) (fun _ _ _ _ h => h) rfl rfl hn rfl (zy rfl rfl rfl (by intro hB; first | (rw [hB]; rfl) | (rw [hB, hc]; rfl) | simp_all)) ?_
       refine zM ?_
       refine zv (by kernel_rfl) ?_
       exact aend_join_on hJ2 ⟨x2, hx2⟩ ⟨.inl rfl, zJ _⟩ ⟨.inl rfl, .inl rfl, zX _⟩ (by repeat (first | exact kr _ | refine kc rfl ?_)) (by repeat (first | exact kr _ | refine kc rfl ?_))
     ·
      refine br rfl (s_guardT (zD rfl rfl rfl) rfl (s_callE (yP more (by omega)) rfl rfl rfl (nb hn rfl) (.d rfl) rfl (.refl _) trivial (fun _ => rfl) (fun _ _ => trivial))) fun vc => ?_
      refine d2_of_d1 (zM ?_)
      refine yx 7 [11] (by kernel_rfl) ⟨?_, ?_, trivial⟩
      ·
       refine br rfl (yA _ [] (zD rfl rfl rfl) rfl (nb hn rfl) (fun _ => trivial) (fun _ => zQ rfl rfl (id := 1072) rfl Tryz.underlying137 rfl rfl sees0)) fun _ => ?_
       refine d2_of_d1 (zM ?_)
       refine zk (i := 11) (by kernel_rfl) rfl (s_guardT (zD rfl rfl rfl) rfl (zP rfl rfl rfl (nb hn rfl) Tryz.underlying22 sz3 zr3 rfl rfl rfl (show _ = [.d (.int .i64 0)] from by kernel_rfl) (by kernel_rfl) rfl rfl rfl rfl rfl)) fun _ => ?_
       refine d2_of_d1 (zM ?_)
       refine zk (i := 12) (by kernel_rfl) rfl (s_guardT (zD rfl rfl rfl) rfl (s_append (id := 1021) rfl rfl rfl (nb hn rfl) elt22 trivial rfl rfl rfl (by simp [chunk]; omega) (by simp [chunk]; omega) (fun b hb => trivial))) fun v39 => ?_
       refine d2_of_d1 (zM ?_)
       have hcall := ih k1 rfl (more ++ [(h : Int)]) (h + 1) x1 (by omega) (by rw [List.length_append, List.length_singleton]; omega) (fun y hy => by rcases List.mem_append.1 hy with hy | hy; exact hm5 y hy; (rw [List.mem_singleton] at hy; omega))
       rw [yc] at hcall
       refine zAR (g_row (t := 39) (id := 1021) rfl rfl) ?_
       refine zk (i := 17) (by kernel_rfl) rfl (s_guardT (zD rfl rfl rfl) rfl (s_callE (hcall) rfl rfl rfl (nb hn rfl) (.t rfl) rfl (.refl _) ⟨rfl, rfl, trivial⟩ (fun _ => rfl) (fun _ _ => trivial))) fun ⟨x2, hx2⟩ => ?_
       refine d2_of_d1 ?_
       refine d1q (i := 18) rfl (by kernel_rfl) (fun _ _ _ _ h => h) rfl rfl hn rfl (zy rfl rfl rfl (by intro hB; first | (rw [hB]; rfl) | (rw [hB, hc]; rfl) | simp_all)) ?_
       refine zM ?_
       refine zv (by kernel_rfl) ?_
       exact aend_join_on hJ2 ⟨x2, hx2⟩ ⟨.inl rfl, zJ _⟩ ⟨.inl rfl, .inl rfl, zX _⟩ (by repeat (first | exact kr _ | refine kc rfl ?_)) (by repeat (first | exact kr _ | refine kc rfl ?_))
      ·
       refine br rfl (s_guardT (zD rfl rfl rfl) rfl (zP rfl rfl rfl (nb hn rfl) Tryz.underlying22 sz3 zr3 rfl rfl rfl (show _ = [.d (.int .i64 0)] from by kernel_rfl) (by kernel_rfl) rfl rfl rfl rfl rfl)) fun _ => ?_
       refine d2_of_d1 (zM ?_)
       refine yx 7 [12] (by kernel_rfl) ⟨?_, ?_, trivial⟩
       ·
        refine br rfl (yA _ [] (zD rfl rfl rfl) rfl (nb hn rfl) (fun _ => trivial) (fun _ => zQ rfl rfl (id := 1072) rfl Tryz.underlying137 rfl rfl sees0)) fun _ => ?_
        refine d2_of_d1 (zM ?_)
        refine zk (i := 12) (by kernel_rfl) rfl (s_guardT (zD rfl rfl rfl) rfl (s_append (id := 1021) rfl rfl rfl (nb hn rfl) elt22 trivial rfl rfl rfl (by simp [chunk]; omega) (by simp [chunk]; omega) (fun b hb => trivial))) fun v39 => ?_
        refine d2_of_d1 (zM ?_)
        have hcall := ih k1 rfl (more ++ [(h : Int)]) (h + 1) x1 (by omega) (by rw [List.length_append, List.length_singleton]; omega) (fun y hy => by rcases List.mem_append.1 hy with hy | hy; exact hm5 y hy; (rw [List.mem_singleton] at hy; omega))
        rw [yc] at hcall
        refine zAR (g_row (t := 39) (id := 1021) rfl rfl) ?_
        refine zk (i := 17) (by kernel_rfl) rfl (s_guardT (zD rfl rfl rfl) rfl (s_callE (hcall) rfl rfl rfl (nb hn rfl) (.t rfl) rfl (.refl _) ⟨rfl, rfl, trivial⟩ (fun _ => rfl) (fun _ _ => trivial))) fun ⟨x2, hx2⟩ => ?_
        refine d2_of_d1 ?_
        refine d1q (i := 18) rfl (by kernel_rfl) (fun _ _ _ _ h => h) rfl rfl hn rfl (zy rfl rfl rfl (by intro hB; first | (rw [hB]; rfl) | (rw [hB, hc]; rfl) | simp_all)) ?_
        refine zM ?_
        refine zv (by kernel_rfl) ?_
        exact aend_join_on hJ2 ⟨x2, hx2⟩ ⟨.inl rfl, zJ _⟩ ⟨.inl rfl, .inl rfl, zX _⟩ (by repeat (first | exact kr _ | refine kc rfl ?_)) (by repeat (first | exact kr _ | refine kc rfl ?_))
       ·
        refine br rfl (s_guardT (zD rfl rfl rfl) rfl (s_append (id := 1021) rfl rfl rfl (nb hn rfl) elt22 trivial rfl rfl rfl (by simp [chunk]; omega) (by simp [chunk]; omega) (fun b hb => trivial))) fun v39 => ?_
        refine d2_of_d1 (zM ?_)
        refine zk (i := 7) (by kernel_rfl) rfl (yA _ [] (zD rfl rfl rfl) rfl (nb hn rfl) (fun _ => trivial) (fun _ => zQ rfl rfl (id := 1072) rfl Tryz.underlying137 rfl rfl sees0)) fun _ => ?_
        refine d2_of_d1 (zM ?_)
        have hcall := ih k1 rfl (more ++ [(h : Int)]) (h + 1) x1 (by omega) (by rw [List.length_append, List.length_singleton]; omega) (fun y hy => by rcases List.mem_append.1 hy with hy | hy; exact hm5 y hy; (rw [List.mem_singleton] at hy; omega))
        rw [yc] at hcall
        refine zAR (g_row (t := 39) (id := 1021) rfl rfl) ?_
        refine zk (i := 17) (by kernel_rfl) rfl (s_guardT (zD rfl rfl rfl) rfl (s_callE (hcall) rfl rfl rfl (nb hn rfl) (.t rfl) rfl (.refl _) ⟨rfl, rfl, trivial⟩ (fun _ => rfl) (fun _ _ => trivial))) fun ⟨x2, hx2⟩ => ?_
        refine d2_of_d1 ?_
        refine d1q (i := 18) rfl (by kernel_rfl) (fun _ _ _ _ h => h) rfl rfl hn rfl (zy rfl rfl rfl (by intro hB; first | (rw [hB]; rfl) | (rw [hB, hc]; rfl) | simp_all)) ?_
        refine zM ?_
        refine zv (by kernel_rfl) ?_
        exact aend_join_on hJ2 ⟨x2, hx2⟩ ⟨.inl rfl, zJ _⟩ ⟨.inl rfl, .inl rfl, zX _⟩ (by repeat (first | exact kr _ | refine kc rfl ?_)) (by repeat (first | exact kr _ | refine kc rfl ?_))
     ·
      refine br rfl (s_guardT (zD rfl rfl rfl) rfl (zP rfl rfl rfl (nb hn rfl) Tryz.underlying22 sz3 zr3 rfl rfl rfl (show _ = [.d (.int .i64 0)] from by kernel_rfl) (by kernel_rfl) rfl rfl rfl rfl rfl)) fun _ => ?_
      refine d2_of_d1 (zM ?_)
      refine yx 7 [9] (by kernel_rfl) ⟨?_, ?_, trivial⟩
      ·
       refine br rfl (yA _ [] (zD rfl rfl rfl) rfl (nb hn rfl) (fun _ => trivial) (fun _ => zQ rfl rfl (id := 1072) rfl Tryz.underlying137 rfl rfl sees0)) fun _ => ?_
       refine d2_of_d1 (zM ?_)
       refine zk (i := 9) (by kernel_rfl) rfl (s_guardT (zD rfl rfl rfl) rfl (s_callE (yP more (by omega)) rfl rfl rfl (nb hn rfl) (.d rfl) rfl (.refl _) trivial (fun _ => rfl) (fun _ _ => trivial))) fun vc => ?_
       refine d2_of_d1 (zM ?_)
       refine zk (i := 12) (by kernel_rfl) rfl (s_guardT (zD rfl rfl rfl) rfl (s_append (id := 1021) rfl rfl rfl (nb hn rfl) elt22 trivial rfl rfl rfl (by simp [chunk]; omega) (by simp [chunk]; omega) (fun b hb => trivial))) fun v39 => ?_
       refine d2_of_d1 (zM ?_)
       have hcall := ih k1 rfl (more ++ [(h : Int)]) (h + 1) x1 (by omega) (by rw [List.length_append, List.length_singleton]; omega) (fun y hy => by rcases List.mem_append.1 hy with hy | hy; exact hm5 y hy; (rw [List.mem_singleton] at hy; omega))
       rw [yc] at hcall
       refine zAR (g_row (t := 39) (id := 1021) rfl rfl) ?_
       refine zk (i := 17) (by kernel_rfl) rfl (s_guardT (zD rfl rfl rfl) rfl (s_callE (hcall) rfl rfl rfl (nb hn rfl) (.t rfl) rfl (.refl _) ⟨rfl, rfl, trivial⟩ (fun _ => rfl) (fun _ _ => trivial))) fun ⟨x2, hx2⟩ => ?_
       refine d2_of_d1 ?_
       refine d1q (i := 18) rfl (by kernel_rfl) (fun _ _ _ _ h => h) rfl rfl hn rfl (zy rfl rfl rfl (by intro hB; first | (rw [hB]; rfl) | (rw [hB, hc]; rfl) | simp_all)) ?_
       refine zM ?_
       refine zv (by kernel_rfl) ?_
       exact aend_join_on hJ2 ⟨x2, hx2⟩ ⟨.inl rfl, zJ _⟩ ⟨.inl rfl, .inl rfl, zX _⟩ (by repeat (first | exact kr _ | refine kc rfl ?_)) (by repeat (first | exact kr _ | refine kc rfl ?_))
      ·
       refine br rfl (s_guardT (zD rfl rfl rfl) rfl (s_callE (yP more (by omega)) rfl rfl rfl (nb hn rfl) (.d rfl) rfl (.refl _) trivial (fun _ => rfl) (fun _ _ => trivial))) fun vc => ?_
       refine d2_of_d1 (zM ?_)
       refine yx 7 [12] (by kernel_rfl) ⟨?_, ?_, trivial⟩
       ·
        refine br rfl (yA _ [] (zD rfl rfl rfl) rfl (nb hn rfl) (fun _ => trivial) (fun _ => zQ rfl rfl (id := 1072) rfl Tryz.underlying137 rfl rfl sees0)) fun _ => ?_
        refine d2_of_d1 (zM ?_)
        refine zk (i := 12) (by kernel_rfl) rfl (s_guardT (zD rfl rfl rfl) rfl (s_append (id := 1021) rfl rfl rfl (nb hn rfl) elt22 trivial rfl rfl rfl (by simp [chunk]; omega) (by simp [chunk]; omega) (fun b hb => trivial))) fun v39 => ?_
        refine d2_of_d1 (zM ?_)
        have hcall := ih k1 rfl (more ++ [(h : Int)]) (h + 1) x1 (by omega) (by rw [List.length_append, List.length_singleton]; omega) (fun y hy => by rcases List.mem_append.1 hy with hy | hy; exact hm5 y hy; (rw [List.mem_singleton] at hy; omega))
        rw [yc] at hcall
        refine zAR (g_row (t := 39) (id := 1021) rfl rfl) ?_
        refine zk (i := 17) (by kernel_rfl) rfl (s_guardT (zD rfl rfl rfl) rfl (s_callE (hcall) rfl rfl rfl (nb hn rfl) (.t rfl) rfl (.refl _) ⟨rfl, rfl, trivial⟩ (fun _ => rfl) (fun _ _ => trivial))) fun ⟨x2, hx2⟩ => ?_
        refine d2_of_d1 ?_
        refine d1q (i := 18) rfl (by kernel_rfl) (fun _ _ _ _ h => h) rfl rfl hn rfl (zy rfl rfl rfl (by intro hB; first | (rw [hB]; rfl) | (rw [hB, hc]; rfl) | simp_all)) ?_
        refine zM ?_
        refine zv (by kernel_rfl) ?_
        exact aend_join_on hJ2 ⟨x2, hx2⟩ ⟨.inl rfl, zJ _⟩ ⟨.inl rfl, .inl rfl, zX _⟩ (by repeat (first | exact kr _ | refine kc rfl ?_)) (by repeat (first | exact kr _ | refine kc rfl ?_))
       ·
        refine br rfl (s_guardT (zD rfl rfl rfl) rfl (s_append (id := 1021) rfl rfl rfl (nb hn rfl) elt22 trivial rfl rfl rfl (by simp [chunk]; omega) (by simp [chunk]; omega) (fun b hb => trivial))) fun v39 => ?_
        refine d2_of_d1 (zM ?_)
        refine zk (i := 7) (by kernel_rfl) rfl (yA _ [] (zD rfl rfl rfl) rfl (nb hn rfl) (fun _ => trivial) (fun _ => zQ rfl rfl (id := 1072) rfl Tryz.underlying137 rfl rfl sees0)) fun _ => ?_
        refine d2_of_d1 (zM ?_)
        have hcall := ih k1 rfl (more ++ [(h : Int)]) (h + 1) x1 (by omega) (by rw [List.length_append, List.length_singleton]; omega) (fun y hy => by rcases List.mem_append.1 hy with hy | hy; exact hm5 y hy; (rw [List.mem_singleton] at hy; omega))
        rw [yc] at hcall
        refine zAR (g_row (t := 39) (id := 1021) rfl rfl) ?_
        refine zk (i := 17) (by kernel_rfl) rfl (s_guardT (zD rfl rfl rfl) rfl (s_callE (hcall) rfl rfl rfl (nb hn rfl) (.t rfl) rfl (.refl _) ⟨rfl, rfl, trivial⟩ (fun _ => rfl) (fun _ _ => trivial))) fun ⟨x2, hx2⟩ => ?_
        refine d2_of_d1 ?_
        refine d1q (i := 18) rfl (by kernel_rfl) (fun _ _ _ _ h => h) rfl rfl hn rfl (zy rfl rfl rfl (by intro hB; first | (rw [hB]; rfl) | (rw [hB, hc]; rfl) | simp_all)) ?_
        refine zM ?_
        refine zv (by kernel_rfl) ?_
        exact aend_join_on hJ2 ⟨x2, hx2⟩ ⟨.inl rfl, zJ _⟩ ⟨.inl rfl, .inl rfl, zX _⟩ (by repeat (first | exact kr _ | refine kc rfl ?_)) (by repeat (first | exact kr _ | refine kc rfl ?_))
    ·
     rintro ⟨x2, hx2⟩
     dsimp only
     refine zA ?_
     refine zS rfl (fun hb3 => ?_) (fun hb3 => ?_)
     ·
      obtain ⟨s, hs2⟩ := Option.isSome_iff_exists.1 hb3
      have hfin : enS l hs (k1 + 1) more i = some s := by rw [hst]; exact fr_hit hih (by omega) hno (hef.trans hs2)
      refine zC (zB ?_)
      refine sq rfl rfl hn rfl (zF rfl rfl) ?_
      refine zE (zA (zO (zf (zL (zL (zf (zL ?_)))))))
      exact ret_E (.inl rfl) ⟨x2, fun s2 h2 => by rw [hfin] at h2; cases h2; exact hx2 s hs2⟩ ((yB rfl (.tmp rfl)).eq (by rw [hfin]; rfl)) ⟨rfl, rfl, trivial⟩
     ·
      have hnn : enF l hs k1 more h = none := by rw [hef]; simpa using hb3
      refine zU (za (zA (zB ?_)))
      refine sq rfl rfl hn rfl (zG rfl rfl) ?_
      refine sq rfl rfl hn rfl (z6 rfl rfl rfl (r := ((h + 1 : Nat) : Int)) (i64w (by omega) (by omega))) ?_
      refine sq rfl rfl hn rfl (zF rfl rfl) ?_
      refine zE ?_
      exact zZ ⟨(h + 1, x2), by omega, by omega, fun h2 a b => by (by_cases e : h2 = h; (subst e; exact hnn); exact hno h2 a (by omega))⟩ ⟨.inl rfl, zJ _⟩ ⟨.inl rfl, .inl rfl, zX _⟩ (by simp only; omega) (by repeat (first | exact kr _ | refine kc rfl ?_)) (by repeat (first | exact kr _ | refine kc rfl ?_))
   ·
    have hef := enF_lend (hs := hs) (k := k1) (more := more) hld
    refine yC (W := fun b => True) fmo ?_
    refine d1q (i := 0) rfl (by kernel_rfl) (fun _ _ _ _ h => h) rfl rfl hn rfl (zN rfl rfl Tryz.underlying50 rfl sz30 rfl) ?_
    refine d1q (i := 1) rfl (by kernel_rfl) (fun _ _ _ _ h => h) rfl rfl hn rfl (zR rfl rfl Tryz.underlying30 rfl seesFA) ?_
    refine d1q (i := 2) rfl (by kernel_rfl) (fun _ _ _ _ h => h) rfl rfl hn rfl (zG rfl rfl) ?_
    refine d1q (i := 3) rfl (by kernel_rfl) (fun _ _ _ _ h => h) rfl rfl hn rfl (q_index (i := h) rfl rfl rfl Tryz.underlying30 sz4 rfl (mget hbl)) ?_
    refine d1q (i := 4) rfl (by kernel_rfl) (fun _ _ _ _ h => h) rfl rfl hn rfl (zR rfl rfl Tryz.underlying4 rfl seesFA) ?_
    refine d1q (i := 5) rfl (by kernel_rfl) (fun _ _ _ _ h => h) rfl rfl hn rfl (yF rfl rfl) ?_
    refine d1q (i := 6) rfl (by kernel_rfl) (fun _ _ _ _ h => h) rfl rfl hn rfl (zG rfl rfl) ?_
    refine d1g (i := 7) (tv := .any) [] rfl (by kernel_rfl) (fun _ _ _ _ h => h) (zD rfl rfl rfl) rfl hn rfl (fun hc => absurd hc (by decide)) (fun hc => absurd hc (by decide)) ?_
    refine d1g (i := 8) (tv := .any) [] rfl (by kernel_rfl) (fun _ _ _ _ h => h) (zD rfl rfl rfl) rfl hn rfl (fun hc => absurd hc (by decide)) (fun hc => absurd hc (by decide)) ?_
    refine d1g (i := 9) (tv := .any) [] rfl (by kernel_rfl) (fun _ _ _ _ h => h) (zD rfl rfl rfl) rfl hn rfl (fun hc => absurd hc (by decide)) (fun hc => absurd hc (by decide)) ?_
    refine d1g (i := 10) (tv := .any) [] rfl (by kernel_rfl) (fun _ _ _ _ h => h) (zD rfl rfl rfl) rfl hn rfl (fun hc => absurd hc (by decide)) (fun hc => absurd hc (by decide)) ?_
    refine d1g (i := 11) (tv := .any) [] rfl (by kernel_rfl) (fun _ _ _ _ h => h) (zD rfl rfl rfl) rfl hn rfl (fun hc => absurd hc (by decide)) (fun hc => absurd hc (by decide)) ?_
    refine d1g (i := 12) (tv := .any) [] rfl (by kernel_rfl) (fun _ _ _ _ h => h) (zD rfl rfl rfl) rfl hn rfl (fun hc => absurd hc (by decide)) (fun hc => absurd hc (by decide)) ?_
    refine d1g (i := 13) (tv := .any) [] rfl (by kernel_rfl) (fun _ _ _ _ h => h) (zD rfl rfl rfl) rfl hn rfl (fun hc => absurd hc (by decide)) (fun hc => absurd hc (by decide)) ?_
    refine d1g (i := 14) (tv := .any) [] rfl (by kernel_rfl) (fun _ _ _ _ h => h) (zD rfl rfl rfl) rfl hn rfl (fun hc => absurd hc (by decide)) (fun hc => absurd hc (by decide)) ?_
    refine d1g (i := 15) (tv := .any) [] rfl (by kernel_rfl) (fun _ _ _ _ h => h) (zD rfl rfl rfl) rfl hn rfl (fun hc => absurd hc (by decide)) (fun hc => absurd hc (by decide)) ?_
    refine d1g (i := 16) (tv := .any) [] rfl (by kernel_rfl) (fun _ _ _ _ h => h) (zD rfl rfl rfl) rfl hn rfl (fun hc => absurd hc (by decide)) (fun hc => absurd hc (by decide)) ?_
    refine d1g (i := 17) (tv := .d (.bool false)) [] rfl (by kernel_rfl) (fun _ _ _ _ h => h) (zD rfl rfl rfl) rfl hn rfl (fun hc => absurd hc (by decide)) (fun hc => absurd hc (by decide)) ?_
    refine d1q (i := 18) rfl (by kernel_rfl) (fun _ _ _ _ h => h) rfl rfl hn rfl (zy rfl rfl rfl (by intro hB; first | (rw [hB]; rfl) | (rw [hB, hc]; rfl) | simp_all)) ?_
    refine zM ?_
    refine zv (by kernel_rfl) ?_
    refine zA ?_
    refine zS rfl (fun hb4 => ?_) (fun hb4 => ?_)
    ·
     cases hb4
    ·
     refine zU (za (zA (zB ?_)))
     refine sq rfl rfl hn rfl (zG rfl rfl) ?_
     refine sq rfl rfl hn rfl (z6 rfl rfl rfl (r := ((h + 1 : Nat) : Int)) (i64w (by omega) (by omega))) ?_
     refine sq rfl rfl hn rfl (zF rfl rfl) ?_
     refine zE ?_
     exact zZ ⟨(h + 1, x1), by omega, by omega, fun h2 a b => by (by_cases e : h2 = h; (subst e; exact hef); exact hno h2 a (by omega))⟩ ⟨.inl rfl, zJ _⟩ ⟨.inl rfl, .inl rfl, zX _⟩ (by simp only; omega) (by repeat (first | exact kr _ | refine kc rfl ?_)) (by repeat (first | exact kr _ | refine kc rfl ?_))
  ·
   obtain rfl : h = houN l := by simp only [decide_eq_false_iff_not] at hb1; omega
   refine zw (zK (zK (zW (zA (zC (zB ?_))))))
   refine sq rfl rfl hn rfl (zF rfl rfl) ?_
   refine zE (zA (zO ?_))
   exact ret_E (.inl rfl) ⟨x1, enX_none (by rw [hst]; exact zES fun h2 a b => hno h2 a (by omega))⟩ ((yB rfl (.tmp rfl)).eq (by rw [show enS l hs (k1 + 1) more i = none from by rw [hst]; exact zES fun h2 a b => hno h2 a (by omega)]; rfl)) ⟨rfl, rfl, trivial⟩
end Go.Proofs.YtaokpncjemkhcaaGreat
namespace Go.Proofs.YtaokpncjemkhcaaGreat
open Go.RowKit
set_option maxRecDepth 20000
set_option linter.all false
theorem en_all (l : Ldg) (L : Lok l) (hs : List (List Int)) (hhs : ∀ h ∈ hs, HsOK l h) (bF b7 : Nat) : ∀ k, EnOK l hs bF b7 k := by
  intro k
  induction k with
  | zero => intro more i x h1 h2 h3; exact zEO l L hs hhs bF b7 0 (fun k1 h => by omega) more i x h1 h2 h3
  | succ k ih => intro more i x h1 h2 h3; exact zEO l L hs hhs bF b7 (k + 1) (fun k1 h => by obtain rfl : k = k1 := (by omega); exact ih) more i x h1 h2 h3
def enR (l : Ldg) : Option (List Int) := enoughR (enP l (knownR l).1) (fun i => l.lends.getD i false) (houN l)
def enoughX (l : Ldg) : List Int × Int := if (knownR l).2 ≠ 0 then ([], (knownR l).2) else match enR l with
  | some s => (s, 0)
  | none => ([], 10)
theorem enX_bad {l : Ldg} (h : (knownR l).2 ≠ 0) : enoughX l = ([], (knownR l).2) := if_pos h
theorem enX_some {l : Ldg} {s : List Int} (h : (knownR l).2 = 0) (h2 : enR l = some s) : enoughX l = (s, 0) := by unfold enoughX; rw [if_neg (by simpa using h), h2]
theorem enX_nil {l : Ldg} (h : (knownR l).2 = 0) (h2 : enR l = none) : enoughX l = ([], 10) := by unfold enoughX; rw [if_neg (by simpa using h), h2]
theorem enR_hit {l : Ldg} {n : Nat} {s : List Int} (hn : n ≤ houN l) (h1 : ∀ k, k < n → enS l (knownR l).1 k [] 0 = none) (h2 : enS l (knownR l).1 n [] 0 = some s) : enR l = some s := zDN (n := n) (by omega) h1 h2
theorem enR_miss {l : Ldg} (h1 : ∀ k, k < houN l + 1 → enS l (knownR l).1 k [] 0 = none) : enR l = none := zBu h1
theorem known_lok {l : Ldg} (h : (knownR l).2 = 0) : Lok l := ku (by
  by_cases hc : checkL l = 0
  · exact hc
  · rw [kl hc] at h; exact absurd h hc)
theorem known_hs {l : Ldg} : ∀ h ∈ (knownR l).1, HsOK l h := fun h hh => ((zBC (l := l)).2 h hh).2
theorem sz137 : Sz Tryz.prog 137 1 := (by kernel_rfl : (Tryz.prog.info? 137).map (·.size) = some 1)
theorem zr137 : (Tryz.prog.info? 137).map (·.zero) = some (some .nilFunc) := by kernel_rfl
theorem zBe (l : Ldg) : PureAt Tryz.prog 36 [ldgD l] (.tup [ints (enoughX l).1, .int .i64 (enoughX l).2]) := by
 refine PureAt.of_awp Tryz.func36 rfl (by kernel_rfl) (Nat.le_of_ble_eq_true rfl) fun Γ hn hl => ?_
 refine zC (zB ?_)
 refine stepW (zr 1 rfl rfl rfl (nb hn rfl) rfl rfl) fun b1 => ?_
 refine sq rfl rfl hn rfl (zF rfl rfl) ?_
 refine sq rfl rfl hn rfl (zF rfl rfl) ?_
 refine zE (zA (awp_scope (zC ?_)))
 refine zx (zn (t := 1) 1 rfl (nb hn rfl) rfl rfl trivial) ?_
 refine zB ?_
 refine sq rfl rfl hn rfl (ze rfl rfl Tryz.underlying50 rfl sz50 rfl rfl seesF0) ?_
 refine stepW (s_call [] (fun _ => zBG l) rfl (zI rfl) rfl (nb hn rfl) (fun _ => trivial) rfl rfl (.refl _)) fun _ => ?_
 refine sq rfl rfl hn rfl (zG rfl rfl) ?_
 refine sq rfl rfl hn rfl (zT rfl rfl rfl) ?_
 refine sq rfl rfl hn rfl (zT rfl rfl rfl) ?_
 refine stepW (zh 4 rfl rfl rfl (nb hn rfl) zr116 rfl rfl) fun b4 => ?_
 refine stepW (s_store1 rfl rfl rfl rfl rfl rfl (id := 4) rfl sz116 (Nat.le_of_ble_eq_true rfl) rfl trivial) fun _ => ?_
 refine sq rfl rfl hn rfl (zF rfl rfl) ?_
 refine zE (zA (zC (zC ?_)))
 refine zx (zn (t := 4) 4 rfl (nb hn rfl) rfl rfl trivial) ?_
 refine zB ?_
 refine sq rfl rfl hn rfl (zG rfl rfl) ?_
 refine sq rfl rfl hn rfl (yX rfl rfl rfl) ?_
 refine zE (zA ?_)
 refine zS rfl (fun hb0 => ?_) (fun hb0 => ?_)
 ·
  have hk0 : (knownR l).2 ≠ 0 := by simpa using hb0
  refine zC (zB ?_)
  refine sq rfl rfl hn rfl (zG rfl rfl) ?_
  refine sq rfl rfl hn rfl (zF rfl rfl) ?_
  refine sq rfl rfl hn rfl (zF rfl rfl) ?_
  refine zE (zA (zO (zL ?_)))
  refine zAu ?_ (fun _ e => by cases e)
  refine kb (kL (.inl rfl) hl rfl (.tmp rfl) (.tmp rfl)) ?_
  rw [enX_bad hk0]; exact .tup (.cons (.nil 1) (.refl _))
 ·
  have hk0 : (knownR l).2 = 0 := by simpa using hb0
  have L := known_lok hk0
  have hN := L.hN
  refine zU (zA (zC (zB ?_)))
  refine stepW (zh 1071 rfl rfl rfl (nb hn rfl) zr22 rfl rfl) fun b6 => ?_
  refine zE (zA (zC (zB ?_)))
  refine sq rfl rfl hn rfl (zF rfl rfl) ?_
  refine zE (zA (zC (zB ?_)))
  refine stepW (zh 1072 rfl rfl rfl (nb hn rfl) zr137 rfl rfl) fun b7 => ?_
  refine zE (zA (zC (zB ?_)))
  refine sq rfl rfl hn rfl (kQ rfl rfl rfl) ?_
  refine stepW (s_store1 rfl rfl rfl rfl rfl rfl (id := 1072) rfl sz137 (Nat.le_of_ble_eq_true rfl) rfl trivial) fun _ => ?_
  refine zE (zA (zC (awp_label (zA (zC (zC (zB ?_)))))))
  refine sq rfl rfl hn rfl (zN rfl rfl Tryz.underlying50 rfl sz44 rfl) ?_
  refine sq rfl rfl hn rfl (zN rfl rfl Tryz.underlying44 rfl sz3 rfl) ?_
  refine sq rfl rfl hn rfl (zR rfl rfl Tryz.underlying3 rfl seesF0) ?_
  refine sq rfl rfl hn rfl (z6 rfl rfl rfl (r := ((houN l + 1 : Nat) : Int)) (i64w (by omega) (by omega))) ?_
  refine sq rfl rfl hn rfl (zG rfl rfl) ?_
  refine zE (zA (zV ?_))
  refine awp_loop_on (ι := {x : Nat × D // x.1 ≤ houN l + 1 ∧ ∀ k, k < x.1 → enS l (knownR l).1 k [] 0 = none}) (fun x => (5, true, .d (.int .i64 10)) :: (22, true, .d (.int .i64 (x.1.1 : Nat))) :: anys [23, 24, 8, 25, 26, 27, 28]) (fun x => [(1071, .box b6 22 [.d x.1.2]), (1072, .box b7 137 [.fn (.func 75) [] (enCa l (knownR l).1 b6 b7)])]) (fun x => houN l + 1 - x.1.1) ⟨(0, _), Nat.zero_le _, fun k hk => by omega⟩ ⟨.inl rfl, .inl rfl, zJ _⟩ ⟨.inl rfl, .inl rfl, trivial⟩ ?_
  rintro ⟨⟨n, x1⟩, hnN, hno⟩
  dsimp only
  dsimp only at hnN hno
  refine zC (zB ?_)
  refine sq rfl rfl hn rfl (yJ rfl rfl rfl) ?_
  refine zE (zA (zC ?_))
  refine zS rfl (fun hb1 => ?_) (fun hb1 => ?_)
  ·
   have hlt : n ≤ houN l := by simp only [decide_eq_true_eq] at hb1; omega
   refine zU (zA (zC (zV (zC (zB ?_)))))
   refine sq rfl rfl hn rfl (zG rfl rfl) ?_
   refine sq rfl rfl hn rfl (zF rfl rfl) ?_
   refine zE (zA (zC (zB ?_)))
   refine sq rfl rfl hn rfl (zQ rfl rfl (id := 1072) rfl Tryz.underlying137 rfl rfl sees0) ?_
   refine sq rfl rfl hn rfl (zG rfl rfl) ?_
   refine stepW (s_callE (en_all l L (knownR l).1 known_hs b6 b7 n [] 0 x1 (Nat.zero_le _) (by simp; omega) (fun y hy => by cases hy)) rfl rfl rfl (nb hn rfl) (.t rfl) rfl (by first | exact .refl _ | (repeat (first | exact .refl _ | exact .d (.nil _) | exact .nil _ | refine .cons ?_ ?_ | refine .d ?_ | refine .agg ?_ | refine .tup ?_))) ⟨rfl, rfl, trivial⟩ (fun _ => rfl) (fun _ _ => trivial)) fun ⟨x2, hx2⟩ => ?_
   refine zE (zA ?_)
   refine zS rfl (fun hb2 => ?_) (fun hb2 => ?_)
   ·
    try simp only [decide_eq_true_eq, decide_eq_false_iff_not, Bool.and_eq_true, Bool.or_eq_true, Bool.and_eq_false_iff, Bool.or_eq_false_iff, Bool.not_eq_true', Bool.not_eq_false', beq_iff_eq, bne_iff_ne, ne_eq, beq_eq_false_iff_ne, bne_eq_false_iff_eq, Int.not_lt, Int.not_le] at hb2
    obtain ⟨s, hs2⟩ := Option.isSome_iff_exists.1 hb2
    have hhit := enR_hit hlt hno hs2
    refine zC (zB ?_)
    refine sq rfl rfl hn rfl (zF rfl rfl) ?_
    refine zE (zA (zw ?_))
    refine ym rfl ?_
    refine zK (zK (zW (zA (zC (zC (zB ?_))))))
    refine sq rfl rfl hn rfl (zG rfl rfl) ?_
    refine sq rfl rfl hn rfl (yX rfl rfl rfl) ?_
    refine zE (zA ?_)
    refine zS rfl (fun hb3 => ?_) (fun hb3 => ?_)
    ·
     try simp only [decide_eq_true_eq, decide_eq_false_iff_not, Bool.and_eq_true, Bool.or_eq_true, Bool.and_eq_false_iff, Bool.or_eq_false_iff, Bool.not_eq_true', Bool.not_eq_false', beq_iff_eq, bne_iff_ne, ne_eq, beq_eq_false_iff_ne, bne_eq_false_iff_eq, Int.not_lt, Int.not_le] at hb3
     simp at hb3
    ·
     try simp only [decide_eq_true_eq, decide_eq_false_iff_not, Bool.and_eq_true, Bool.or_eq_true, Bool.and_eq_false_iff, Bool.or_eq_false_iff, Bool.not_eq_true', Bool.not_eq_false', beq_iff_eq, bne_iff_ne, ne_eq, beq_eq_false_iff_ne, bne_eq_false_iff_eq, Int.not_lt, Int.not_le] at hb3
     refine zU (zA (zC (zB ?_)))
     refine sq rfl rfl hn rfl (zQ rfl rfl (id := 1071) rfl Tryz.underlying22 rfl rfl sees0) ?_
     refine sq rfl rfl hn rfl (zF rfl rfl) ?_
     refine sq rfl rfl hn rfl (zF rfl rfl) ?_
     refine zE (zA (zO ?_))
     refine zAu ?_ (fun _ e => by cases e)
     refine zp (kL (.inl rfl) hl rfl (.tmp rfl) (.tmp rfl)) ?_
     rw [enX_some hk0 hhit]; show D.tup [x2, _] = _; rw [hx2 s hs2]
   ·
    try simp only [decide_eq_true_eq, decide_eq_false_iff_not, Bool.and_eq_true, Bool.or_eq_true, Bool.and_eq_false_iff, Bool.or_eq_false_iff, Bool.not_eq_true', Bool.not_eq_false', beq_iff_eq, bne_iff_ne, ne_eq, beq_eq_false_iff_ne, bne_eq_false_iff_eq, Int.not_lt, Int.not_le] at hb2
    have hnn : enS l (knownR l).1 n [] 0 = none := by simpa using hb2
    refine zU (za (zA (zB ?_)))
    refine sq rfl rfl hn rfl (z6 rfl rfl rfl (r := ((n + 1 : Nat) : Int)) (i64w (by omega) (by omega))) ?_
    refine sq rfl rfl hn rfl (zG rfl rfl) ?_
    refine zE ?_
    exact zZ ⟨(n + 1, x2), by omega, fun k hk => by (by_cases e : k = n; (subst e; exact hnn); exact hno k (by omega))⟩ ⟨.inl rfl, .inl rfl, zJ _⟩ ⟨.inl rfl, .inl rfl, trivial⟩ (by simp only; omega) (by repeat (first | exact kr _ | refine kc rfl ?_)) (by repeat (first | exact kr _ | refine kc rfl ?_))
  ·
   have hmiss := enR_miss (l := l) fun k hk => hno k (by (simp only [decide_eq_false_iff_not] at hb1; omega))
   refine zw (zK (zK (zW (zA (zC (zC (zB ?_)))))))
   refine sq rfl rfl hn rfl (zG rfl rfl) ?_
   refine sq rfl rfl hn rfl (yX rfl rfl rfl) ?_
   refine zE (zA ?_)
   refine zS rfl (fun hb4 => ?_) (fun hb4 => ?_)
   ·
    try simp only [decide_eq_true_eq, decide_eq_false_iff_not, Bool.and_eq_true, Bool.or_eq_true, Bool.and_eq_false_iff, Bool.or_eq_false_iff, Bool.not_eq_true', Bool.not_eq_false', beq_iff_eq, bne_iff_ne, ne_eq, beq_eq_false_iff_ne, bne_eq_false_iff_eq, Int.not_lt, Int.not_le] at hb4
    refine zC (zB ?_)
    refine sq rfl rfl hn rfl (zG rfl rfl) ?_
    refine sq rfl rfl hn rfl (zF rfl rfl) ?_
    refine sq rfl rfl hn rfl (zF rfl rfl) ?_
    refine zE (zA (zO (zL ?_)))
    refine zAu ?_ (fun _ e => by cases e)
    refine kb (kL (.inl rfl) hl rfl (.tmp rfl) (.tmp rfl)) ?_
    rw [enX_nil hk0 hmiss]; exact .tup (.cons (.nil 1) (.refl _))
   ·
    try simp only [decide_eq_true_eq, decide_eq_false_iff_not, Bool.and_eq_true, Bool.or_eq_true, Bool.and_eq_false_iff, Bool.or_eq_false_iff, Bool.not_eq_true', Bool.not_eq_false', beq_iff_eq, bne_iff_ne, ne_eq, beq_eq_false_iff_ne, bne_eq_false_iff_eq, Int.not_lt, Int.not_le] at hb4
    simp at hb4
end Go.Proofs.YtaokpncjemkhcaaGreat
namespace Go.Proofs.YtaokpncjemkhcaaGreat
open Go.RowKit
set_option maxRecDepth 20000
set_option linter.all false
def twoL : Ldg := ⟨⟨3, [0, 1], [⟨1, 0, 0, 1, 1, 3⟩, ⟨0, 0, 1, 2, 2, 4⟩, ⟨2, 1, 1, 0, 3, 5⟩], []⟩, 3, [false, false, true], [⟨0, 1, 1⟩, ⟨1, 2, 2⟩]⟩
theorem bt50 : BT Tryz.prog 50 (.agg #[(.int .i64 0), (.slice none 0 0), (.slice none 0 0), (.slice none 0 0), (.int .i64 0), (.slice none 0 0), (.slice none 0 0)]) (fun i => ([(0, 4), (4, 1), (5, 1), (6, 1)] : List (Nat × Nat))[i]?) := yO Tryz.underlying50 zr50 (by kernel_rfl)
theorem bt88 : BT Tryz.prog 88 (.agg #[(.int .i64 0), (.int .i64 0), (.int .i64 0)]) (fun i => ([(0, 1), (1, 1), (2, 1)] : List (Nat × Nat))[i]?) := yO Tryz.underlying88 zr88 (by kernel_rfl)
theorem yZ  : PureAt Tryz.prog 49 [] (ldgD twoL) := by
 refine PureAt.of_awp Tryz.func49 rfl (by kernel_rfl) (Nat.le_of_ble_eq_true rfl) fun Γ hn hl => ?_
 refine zC (zB ?_)
 refine stepW (zh 0 rfl rfl rfl (nb hn rfl) zr50 rfl rfl) fun b0 => ?_
 refine zE (zA (zC (zB ?_)))
 refine stepW (zP rfl rfl rfl (nb hn rfl) Tryz.underlying22 sz3 zr3 rfl rfl rfl (show _ = [.d (.int .i64 0), .d (.int .i64 0)] from by kernel_rfl) (by kernel_rfl) rfl rfl rfl rfl rfl) fun _ => ?_
 refine sq rfl rfl hn rfl (zg rfl bt37 rfl rfl rfl rfl rfl) ?_
 refine sq rfl rfl hn rfl (zg rfl bt87 rfl rfl rfl rfl rfl) ?_
 refine sq rfl rfl hn rfl (zg rfl bt37 rfl rfl rfl rfl rfl) ?_
 refine sq rfl rfl hn rfl (zg rfl bt87 rfl rfl rfl rfl rfl) ?_
 refine sq rfl rfl hn rfl (zg rfl bt37 rfl rfl rfl rfl rfl) ?_
 refine sq rfl rfl hn rfl (zg rfl bt87 rfl rfl rfl rfl rfl) ?_
 refine stepW (zP rfl rfl rfl (nb hn rfl) Tryz.underlying41 sz87 zr87 rfl rfl rfl (show _ = [.d (.int .i64 0), .d (.int .i64 0), .d (.int .i64 0), .d (.int .i64 0), .d (.int .i64 0), .d (.int .i64 0), .d (.int .i64 0), .d (.int .i64 0), .d (.int .i64 0), .d (.int .i64 0), .d (.int .i64 0), .d (.int .i64 0), .d (.int .i64 0), .d (.int .i64 0), .d (.int .i64 0), .d (.int .i64 0), .d (.int .i64 0), .d (.int .i64 0)] from by kernel_rfl) (by kernel_rfl) rfl rfl rfl rfl rfl) fun _ => ?_
 refine sq rfl rfl hn rfl (zg rfl bt44 rfl rfl rfl rfl rfl) ?_
 refine stepW (zP rfl rfl rfl (nb hn rfl) Tryz.underlying30 sz4 zr4 rfl rfl rfl (show _ = [.d (.bool false), .d (.bool false), .d (.bool false)] from by kernel_rfl) (by kernel_rfl) rfl rfl rfl rfl rfl) fun _ => ?_
 refine sq rfl rfl hn rfl (zg rfl bt88 rfl rfl rfl rfl rfl) ?_
 refine sq rfl rfl hn rfl (zg rfl bt88 rfl rfl rfl rfl rfl) ?_
 refine stepW (zP rfl rfl rfl (nb hn rfl) Tryz.underlying48 sz88 zr88 rfl rfl rfl (show _ = [.d (.int .i64 0), .d (.int .i64 0), .d (.int .i64 0), .d (.int .i64 0), .d (.int .i64 0), .d (.int .i64 0)] from by kernel_rfl) (by kernel_rfl) rfl rfl rfl rfl rfl) fun _ => ?_
 refine sq rfl rfl hn rfl (zg rfl bt50 rfl rfl rfl rfl rfl) ?_
 refine stepW (zl rfl rfl rfl rfl rfl rfl (id := 0) rfl sz50 rfl (Nat.le_of_ble_eq_true rfl) rfl trivial) fun _ => ?_
 refine zE (zA (zO ?_))
 refine kb (zt (.inl rfl) hl rfl (.cellA rfl (id := 0) rfl Tryz.underlying50 rfl sz50 rfl rfl)) ?_
 exact .agg (.cons (.refl _) (.cons (.refl _) (.cons (.refl _) (.cons (.nil 3) (.refl _)))))
end Go.Proofs.YtaokpncjemkhcaaGreat
namespace Go.Proofs.YtaokpncjemkhcaaGreat
open Go.RowKit
set_option maxRecDepth 20000
set_option linter.all false
theorem eq62 (a b c d : Int) (w : World) : (binOp .eql 62 (.agg #[.int .i64 a, .int .i64 b]) (.agg #[.int .i64 c, .int .i64 d])).run Tryz.prog w = .ok (.bool (a == c && b == d)) w := by
  have u3 := Tryz.underlying3
  have a3 := Tryz.isAgg3
  have z3 := Tryz.sizeOf3
  have hS : Tryz.prog.underlying 62 = some (.struct (Tryz.prog.fieldsOf 62)) := by kernel_rfl
  have hp : Tryz.prog.stoodInHeld 62 = false := by kernel_rfl
  rw [run_eql_struct, show (10000 : Nat) = 9999 + 1 from rfl, run_equalIn_agg w 9999 62 _ _ hS hp]
  simp only [Program.fieldsOf, Tryz.underlying62]
  go_simp
  by_cases h1 : a = c <;> by_cases h2 : b = d <;> simp [h1, h2]
theorem guard62 (op : BinOp) (x y : Operand) (xs ys : Array Value) (w : World) : (eqGuard op 62 x y (.agg xs) (.agg ys)).run Tryz.prog w = .ok () w := run_eqGuard_agg w op 62 x y xs ys (by kernel_rfl)
theorem q_eql62 {Γ : Cx} {σ : St} {o : Oper} {R : Rel} {x y : Operand} {t' : TypeId} {a b c d : Int} (h : o.op = .binOp .eql 62 x y t') (hx : σ.ev x = some (true, .d (.agg [.int .i64 a, .int .i64 b]))) (hy : σ.ev y = some (true, .d (.agg [.int .i64 c, .int .i64 d]))) :
    QV Γ Tryz.prog σ o R (.d (.bool (a == c && b == d))) := fun A w F hs => by
  obtain ⟨vs, e1, h1, _⟩ := hs.ev hx
  obtain ⟨us, e2, h2, _⟩ := hs.ev hy
  obtain ⟨v1, vs1, rfl, q1, v2, vs2, rfl, q2, q3⟩ := h1
  obtain ⟨u1, us1, rfl, p1, u2, us2, rfl, p2, p3⟩ := h2
  simp only [Rep, RepVals] at q1 q2 q3 p1 p2 p3
  subst q1 q2 q3 p1 p2 p3
  exact ⟨.bool (a == c && b == d), rfl, fun w' _ => by
    simp only [execOp, h, e1, e2, Sem.run_bind, guard62, Result.andThen_ok, eq62, Sem.run_pure]⟩
theorem two_known : knownR twoL = ([[0, 1, 1], [0, 2, 0], [1, 0, 1], [1, 1, 0]], 0) := by kernel_rfl
theorem two_best1 : bestX twoL [0, 2, 0] = ([0, 2], 1, 0) := by kernel_rfl
theorem two_best2 : bestX twoL [0, 1, 1] = ([1, 2], 0, 0) := by kernel_rfl
theorem two_buy : buyX twoL = ((0, 1), 0) := by kernel_rfl
theorem two_verd : verdX twoL = ([3, 1], 0) := by kernel_rfl
theorem two_enough : enoughX twoL = ([1], 0) := by kernel_rfl
theorem awake_ok  : PureAt Tryz.prog 24 [] (.bool true) := by
 refine PureAt.of_awp Tryz.func24 rfl (by kernel_rfl) (Nat.le_of_ble_eq_true rfl) fun Γ hn hl => ?_
 refine zC (zB ?_)
 refine sq rfl rfl hn rfl (zF rfl rfl) ?_
 refine zE (zA (zC (zB ?_)))
 refine stepW (s_call [] (fun _ => yZ) rfl (zI rfl) rfl (nb hn rfl) (fun _ => trivial) rfl rfl (.refl _)) fun _ => ?_
 refine stepW (s_call [] (fun _ => (by have h6 := zDf twoL; rw [two_known] at h6; exact h6)) rfl (zI rfl) rfl (nb hn rfl) (fun _ => trivial) rfl rfl (.refl _)) fun _ => ?_
 refine sq rfl rfl hn rfl (zG rfl rfl) ?_
 refine sq rfl rfl hn rfl (zT rfl rfl rfl) ?_
 refine sq rfl rfl hn rfl (zT rfl rfl rfl) ?_
 refine sq rfl rfl hn rfl (zF rfl rfl) ?_
 refine sq rfl rfl hn rfl (zF rfl rfl) ?_
 refine zE (zA (zC (zB ?_)))
 refine stepW (s_call [] (fun _ => yZ) rfl (zI rfl) rfl (nb hn rfl) (fun _ => trivial) rfl rfl (.refl _)) fun _ => ?_
 refine stepW (zP rfl rfl rfl (nb hn rfl) Tryz.underlying22 sz3 zr3 rfl rfl rfl (show _ = [.d (.int .i64 0), .d (.int .i64 0), .d (.int .i64 0)] from by kernel_rfl) (by kernel_rfl) rfl rfl rfl rfl rfl) fun _ => ?_
 refine stepW (s_call [] (fun _ => (by have h6 := zBv twoL [0, 2, 0]; rw [two_best1] at h6; exact h6)) rfl (zI rfl) rfl (nb hn rfl) (fun _ => trivial) rfl rfl (.refl _)) fun _ => ?_
 refine sq rfl rfl hn rfl (zG rfl rfl) ?_
 refine sq rfl rfl hn rfl (zT rfl rfl rfl) ?_
 refine sq rfl rfl hn rfl (zT rfl rfl rfl) ?_
 refine sq rfl rfl hn rfl (zT rfl rfl rfl) ?_
 refine sq rfl rfl hn rfl (zF rfl rfl) ?_
 refine sq rfl rfl hn rfl (zF rfl rfl) ?_
 refine sq rfl rfl hn rfl (zF rfl rfl) ?_
 refine zE (zA (zC (zB ?_)))
 refine stepW (s_call [] (fun _ => yZ) rfl (zI rfl) rfl (nb hn rfl) (fun _ => trivial) rfl rfl (.refl _)) fun _ => ?_
 refine stepW (zP rfl rfl rfl (nb hn rfl) Tryz.underlying22 sz3 zr3 rfl rfl rfl (show _ = [.d (.int .i64 0), .d (.int .i64 0), .d (.int .i64 0)] from by kernel_rfl) (by kernel_rfl) rfl rfl rfl rfl rfl) fun _ => ?_
 refine stepW (s_call [] (fun _ => (by have h6 := zBv twoL [0, 1, 1]; rw [two_best2] at h6; exact h6)) rfl (zI rfl) rfl (nb hn rfl) (fun _ => trivial) rfl rfl (.refl _)) fun _ => ?_
 refine sq rfl rfl hn rfl (zG rfl rfl) ?_
 refine sq rfl rfl hn rfl (zT rfl rfl rfl) ?_
 refine sq rfl rfl hn rfl (zT rfl rfl rfl) ?_
 refine sq rfl rfl hn rfl (zT rfl rfl rfl) ?_
 refine sq rfl rfl hn rfl (zF rfl rfl) ?_
 refine sq rfl rfl hn rfl (zF rfl rfl) ?_
 refine sq rfl rfl hn rfl (zF rfl rfl) ?_
 refine zE (zA (zC (zB ?_)))
 refine stepW (s_call [] (fun _ => yZ) rfl (zI rfl) rfl (nb hn rfl) (fun _ => trivial) rfl rfl (.refl _)) fun _ => ?_
 refine stepW (s_call [] (fun _ => (by have h6 := BuyIns_ok twoL; rw [two_buy] at h6; exact h6)) rfl (zI rfl) rfl (nb hn rfl) (fun _ => trivial) rfl rfl (.refl _)) fun _ => ?_
 refine sq rfl rfl hn rfl (zG rfl rfl) ?_
 refine sq rfl rfl hn rfl (zT rfl rfl rfl) ?_
 refine sq rfl rfl hn rfl (zT rfl rfl rfl) ?_
 refine stepW (zh 9 rfl rfl rfl (nb hn rfl) zr62 rfl rfl) fun b9 => ?_
 refine stepW (zl rfl rfl rfl rfl rfl rfl (id := 9) rfl sz62 rfl (Nat.le_of_ble_eq_true rfl) rfl trivial) fun _ => ?_
 refine sq rfl rfl hn rfl (zF rfl rfl) ?_
 refine zE (zA (zC (zB ?_)))
 refine stepW (s_call [] (fun _ => yZ) rfl (zI rfl) rfl (nb hn rfl) (fun _ => trivial) rfl rfl (.refl _)) fun _ => ?_
 refine stepW (s_call [] (fun _ => (by have h6 := zAT twoL; rw [two_verd] at h6; exact h6)) rfl (zI rfl) rfl (nb hn rfl) (fun _ => trivial) rfl rfl (.refl _)) fun _ => ?_
 refine sq rfl rfl hn rfl (zG rfl rfl) ?_
 refine sq rfl rfl hn rfl (zT rfl rfl rfl) ?_
 refine sq rfl rfl hn rfl (zT rfl rfl rfl) ?_
 refine sq rfl rfl hn rfl (zF rfl rfl) ?_
 refine sq rfl rfl hn rfl (zF rfl rfl) ?_
 refine zE (zA (zC (zB ?_)))
 refine stepW (s_call [] (fun _ => yZ) rfl (zI rfl) rfl (nb hn rfl) (fun _ => trivial) rfl rfl (.refl _)) fun _ => ?_
 refine stepW (s_call [] (fun _ => (by have h6 := zBe twoL; rw [two_enough] at h6; exact h6)) rfl (zI rfl) rfl (nb hn rfl) (fun _ => trivial) rfl rfl (.refl _)) fun _ => ?_
 refine sq rfl rfl hn rfl (zG rfl rfl) ?_
 refine sq rfl rfl hn rfl (zT rfl rfl rfl) ?_
 refine sq rfl rfl hn rfl (zT rfl rfl rfl) ?_
 refine sq rfl rfl hn rfl (zF rfl rfl) ?_
 refine sq rfl rfl hn rfl (zF rfl rfl) ?_
 refine zE (zA (zC (zB ?_)))
 refine sq rfl rfl hn rfl (zG rfl rfl) ?_
 refine sq rfl rfl hn rfl (yG rfl rfl rfl) ?_
 refine sq rfl rfl hn rfl (zG rfl rfl) ?_
 refine stepG [] (zD rfl rfl rfl) rfl (nb hn rfl) (fun hc => trivial) (fun hc => zG rfl rfl) ?_
 refine stepG [(52, _)] (zD rfl rfl rfl) rfl (nb hn rfl) (fun hc => ⟨⟨_, rfl, hc⟩, trivial⟩) (fun hc => z7 rfl rfl Tryz.underlying54) ?_
 refine stepG [(53, _)] (zD rfl rfl rfl) rfl (nb hn rfl) (fun hc => ⟨⟨_, rfl, hc⟩, trivial⟩) (fun hc => yG rfl rfl rfl) ?_
 refine sq rfl rfl hn rfl (zy rfl rfl rfl (by intro hB; first | (rw [hB]; rfl) | (rw [hB, hc]; rfl) | simp_all)) ?_
 refine sq rfl rfl hn rfl (zG rfl rfl) ?_
 refine stepG [] (zD rfl rfl rfl) rfl (nb hn rfl) (fun hc => trivial) (fun hc => zG rfl rfl) ?_
 refine stepG [(57, _)] (zD rfl rfl rfl) rfl (nb hn rfl) (fun hc => ⟨⟨_, rfl, hc⟩, trivial⟩) (fun hc => q_index (i := 0) rfl rfl rfl Tryz.underlying54 sz22 rfl rfl) ?_
 refine stepG [(58, _)] (zD rfl rfl rfl) rfl (nb hn rfl) (fun hc => ⟨⟨_, rfl, hc⟩, trivial⟩) (fun hc => zR rfl rfl Tryz.underlying22 rfl seesF0) ?_
 refine stepW (yL (zD rfl rfl rfl) rfl (nb hn rfl) (zP rfl rfl rfl (nb hn rfl) Tryz.underlying22 sz3 zr3 rfl rfl rfl (show _ = [.d (.int .i64 0), .d (.int .i64 0), .d (.int .i64 0)] from by kernel_rfl) (by kernel_rfl) rfl rfl rfl rfl rfl)) fun _ => ?_
 refine stepW (s_call [(59, _), (60, _)] (fun hc => kA [0, 1, 1] [0, 1, 1]) rfl (zD rfl rfl rfl) rfl (nb hn rfl) (fun hc => ⟨⟨_, rfl, hc⟩, ⟨_, rfl, hc⟩, trivial⟩) rfl rfl (.refl _)) fun _ => ?_
 refine sq rfl rfl hn rfl (zy rfl rfl rfl (by intro hB; first | (rw [hB]; rfl) | (rw [hB, hc]; rfl) | simp_all)) ?_
 refine sq rfl rfl hn rfl (zG rfl rfl) ?_
 refine stepG [] (zD rfl rfl rfl) rfl (nb hn rfl) (fun hc => trivial) (fun hc => zG rfl rfl) ?_
 refine stepG [(64, _)] (zD rfl rfl rfl) rfl (nb hn rfl) (fun hc => ⟨⟨_, rfl, hc⟩, trivial⟩) (fun hc => q_index (i := 1) rfl rfl rfl Tryz.underlying54 sz22 rfl rfl) ?_
 refine stepG [(65, _)] (zD rfl rfl rfl) rfl (nb hn rfl) (fun hc => ⟨⟨_, rfl, hc⟩, trivial⟩) (fun hc => zR rfl rfl Tryz.underlying22 rfl seesF0) ?_
 refine stepW (yL (zD rfl rfl rfl) rfl (nb hn rfl) (zP rfl rfl rfl (nb hn rfl) Tryz.underlying22 sz3 zr3 rfl rfl rfl (show _ = [.d (.int .i64 0), .d (.int .i64 0), .d (.int .i64 0)] from by kernel_rfl) (by kernel_rfl) rfl rfl rfl rfl rfl)) fun _ => ?_
 refine stepW (s_call [(66, _), (67, _)] (fun hc => kA [0, 2, 0] [0, 2, 0]) rfl (zD rfl rfl rfl) rfl (nb hn rfl) (fun hc => ⟨⟨_, rfl, hc⟩, ⟨_, rfl, hc⟩, trivial⟩) rfl rfl (.refl _)) fun _ => ?_
 refine sq rfl rfl hn rfl (zy rfl rfl rfl (by intro hB; first | (rw [hB]; rfl) | (rw [hB, hc]; rfl) | simp_all)) ?_
 refine sq rfl rfl hn rfl (zG rfl rfl) ?_
 refine stepG [] (zD rfl rfl rfl) rfl (nb hn rfl) (fun hc => trivial) (fun hc => zG rfl rfl) ?_
 refine stepG [(71, _)] (zD rfl rfl rfl) rfl (nb hn rfl) (fun hc => ⟨⟨_, rfl, hc⟩, trivial⟩) (fun hc => q_index (i := 2) rfl rfl rfl Tryz.underlying54 sz22 rfl rfl) ?_
 refine stepG [(72, _)] (zD rfl rfl rfl) rfl (nb hn rfl) (fun hc => ⟨⟨_, rfl, hc⟩, trivial⟩) (fun hc => zR rfl rfl Tryz.underlying22 rfl seesF0) ?_
 refine stepW (yL (zD rfl rfl rfl) rfl (nb hn rfl) (zP rfl rfl rfl (nb hn rfl) Tryz.underlying22 sz3 zr3 rfl rfl rfl (show _ = [.d (.int .i64 0), .d (.int .i64 0), .d (.int .i64 0)] from by kernel_rfl) (by kernel_rfl) rfl rfl rfl rfl rfl)) fun _ => ?_
 refine stepW (s_call [(73, _), (74, _)] (fun hc => kA [1, 0, 1] [1, 0, 1]) rfl (zD rfl rfl rfl) rfl (nb hn rfl) (fun hc => ⟨⟨_, rfl, hc⟩, ⟨_, rfl, hc⟩, trivial⟩) rfl rfl (.refl _)) fun _ => ?_
 refine sq rfl rfl hn rfl (zy rfl rfl rfl (by intro hB; first | (rw [hB]; rfl) | (rw [hB, hc]; rfl) | simp_all)) ?_
 refine sq rfl rfl hn rfl (zG rfl rfl) ?_
 refine stepG [] (zD rfl rfl rfl) rfl (nb hn rfl) (fun hc => trivial) (fun hc => zG rfl rfl) ?_
 refine stepG [(78, _)] (zD rfl rfl rfl) rfl (nb hn rfl) (fun hc => ⟨⟨_, rfl, hc⟩, trivial⟩) (fun hc => q_index (i := 3) rfl rfl rfl Tryz.underlying54 sz22 rfl rfl) ?_
 refine stepG [(79, _)] (zD rfl rfl rfl) rfl (nb hn rfl) (fun hc => ⟨⟨_, rfl, hc⟩, trivial⟩) (fun hc => zR rfl rfl Tryz.underlying22 rfl seesF0) ?_
 refine stepW (yL (zD rfl rfl rfl) rfl (nb hn rfl) (zP rfl rfl rfl (nb hn rfl) Tryz.underlying22 sz3 zr3 rfl rfl rfl (show _ = [.d (.int .i64 0), .d (.int .i64 0), .d (.int .i64 0)] from by kernel_rfl) (by kernel_rfl) rfl rfl rfl rfl rfl)) fun _ => ?_
 refine stepW (s_call [(80, _), (81, _)] (fun hc => kA [1, 1, 0] [1, 1, 0]) rfl (zD rfl rfl rfl) rfl (nb hn rfl) (fun hc => ⟨⟨_, rfl, hc⟩, ⟨_, rfl, hc⟩, trivial⟩) rfl rfl (.refl _)) fun _ => ?_
 refine sq rfl rfl hn rfl (zy rfl rfl rfl (by intro hB; first | (rw [hB]; rfl) | (rw [hB, hc]; rfl) | simp_all)) ?_
 refine sq rfl rfl hn rfl (zG rfl rfl) ?_
 refine stepG [] (zD rfl rfl rfl) rfl (nb hn rfl) (fun hc => trivial) (fun hc => zG rfl rfl) ?_
 refine stepG [(85, _)] (zD rfl rfl rfl) rfl (nb hn rfl) (fun hc => ⟨⟨_, rfl, hc⟩, trivial⟩) (fun hc => yG rfl rfl rfl) ?_
 refine sq rfl rfl hn rfl (zy rfl rfl rfl (by intro hB; first | (rw [hB]; rfl) | (rw [hB, hc]; rfl) | simp_all)) ?_
 refine sq rfl rfl hn rfl (zG rfl rfl) ?_
 refine stepG [] (zD rfl rfl rfl) rfl (nb hn rfl) (fun hc => trivial) (fun hc => zG rfl rfl) ?_
 refine stepW (yL (zD rfl rfl rfl) rfl (nb hn rfl) (zP rfl rfl rfl (nb hn rfl) Tryz.underlying22 sz3 zr3 rfl rfl rfl (show _ = [.d (.int .i64 0), .d (.int .i64 0)] from by kernel_rfl) (by kernel_rfl) rfl rfl rfl rfl rfl)) fun _ => ?_
 refine stepW (s_call [(89, _), (90, _)] (fun hc => kA [0, 2] [0, 2]) rfl (zD rfl rfl rfl) rfl (nb hn rfl) (fun hc => ⟨⟨_, rfl, hc⟩, ⟨_, rfl, hc⟩, trivial⟩) rfl rfl (.refl _)) fun _ => ?_
 refine sq rfl rfl hn rfl (zy rfl rfl rfl (by intro hB; first | (rw [hB]; rfl) | (rw [hB, hc]; rfl) | simp_all)) ?_
 refine sq rfl rfl hn rfl (zG rfl rfl) ?_
 refine stepG [] (zD rfl rfl rfl) rfl (nb hn rfl) (fun hc => trivial) (fun hc => zG rfl rfl) ?_
 refine stepG [(94, _)] (zD rfl rfl rfl) rfl (nb hn rfl) (fun hc => ⟨⟨_, rfl, hc⟩, trivial⟩) (fun hc => yG rfl rfl rfl) ?_
 refine sq rfl rfl hn rfl (zy rfl rfl rfl (by intro hB; first | (rw [hB]; rfl) | (rw [hB, hc]; rfl) | simp_all)) ?_
 refine sq rfl rfl hn rfl (zG rfl rfl) ?_
 refine stepG [] (zD rfl rfl rfl) rfl (nb hn rfl) (fun hc => trivial) (fun hc => zG rfl rfl) ?_
 refine stepG [(98, _)] (zD rfl rfl rfl) rfl (nb hn rfl) (fun hc => ⟨⟨_, rfl, hc⟩, trivial⟩) (fun hc => yG rfl rfl rfl) ?_
 refine sq rfl rfl hn rfl (zy rfl rfl rfl (by intro hB; first | (rw [hB]; rfl) | (rw [hB, hc]; rfl) | simp_all)) ?_
 refine sq rfl rfl hn rfl (zG rfl rfl) ?_
 refine stepG [] (zD rfl rfl rfl) rfl (nb hn rfl) (fun hc => trivial) (fun hc => zG rfl rfl) ?_
 refine stepW (yL (zD rfl rfl rfl) rfl (nb hn rfl) (zP rfl rfl rfl (nb hn rfl) Tryz.underlying22 sz3 zr3 rfl rfl rfl (show _ = [.d (.int .i64 0), .d (.int .i64 0)] from by kernel_rfl) (by kernel_rfl) rfl rfl rfl rfl rfl)) fun _ => ?_
 refine stepW (s_call [(102, _), (103, _)] (fun hc => kA [1, 2] [1, 2]) rfl (zD rfl rfl rfl) rfl (nb hn rfl) (fun hc => ⟨⟨_, rfl, hc⟩, ⟨_, rfl, hc⟩, trivial⟩) rfl rfl (.refl _)) fun _ => ?_
 refine sq rfl rfl hn rfl (zy rfl rfl rfl (by intro hB; first | (rw [hB]; rfl) | (rw [hB, hc]; rfl) | simp_all)) ?_
 refine sq rfl rfl hn rfl (zG rfl rfl) ?_
 refine stepG [] (zD rfl rfl rfl) rfl (nb hn rfl) (fun hc => trivial) (fun hc => zG rfl rfl) ?_
 refine stepG [(107, _)] (zD rfl rfl rfl) rfl (nb hn rfl) (fun hc => ⟨⟨_, rfl, hc⟩, trivial⟩) (fun hc => yG rfl rfl rfl) ?_
 refine sq rfl rfl hn rfl (zy rfl rfl rfl (by intro hB; first | (rw [hB]; rfl) | (rw [hB, hc]; rfl) | simp_all)) ?_
 refine sq rfl rfl hn rfl (zG rfl rfl) ?_
 refine stepG [] (zD rfl rfl rfl) rfl (nb hn rfl) (fun hc => trivial) (fun hc => zG rfl rfl) ?_
 refine stepG [(111, _)] (zD rfl rfl rfl) rfl (nb hn rfl) (fun hc => ⟨⟨_, rfl, hc⟩, trivial⟩) (fun hc => yG rfl rfl rfl) ?_
 refine sq rfl rfl hn rfl (zy rfl rfl rfl (by intro hB; first | (rw [hB]; rfl) | (rw [hB, hc]; rfl) | simp_all)) ?_
 refine sq rfl rfl hn rfl (zG rfl rfl) ?_
 refine stepG [] (zD rfl rfl rfl) rfl (nb hn rfl) (fun hc => trivial) (fun hc => zY rfl rfl (id := 9) rfl Tryz.underlying62 rfl sz62 rfl rfl sees0) ?_
 refine stepG [] (zD rfl rfl rfl) rfl (nb hn rfl) (fun hc => trivial) (fun hc => zg rfl bt62 rfl rfl rfl rfl rfl) ?_
 refine stepG [(115, _), (116, _)] (zD rfl rfl rfl) rfl (nb hn rfl) (fun hc => ⟨⟨_, rfl, hc⟩, ⟨_, rfl, hc⟩, trivial⟩) (fun hc => q_eql62 rfl rfl rfl) ?_
 refine sq rfl rfl hn rfl (zy rfl rfl rfl (by intro hB; first | (rw [hB]; rfl) | (rw [hB, hc]; rfl) | simp_all)) ?_
 refine sq rfl rfl hn rfl (zG rfl rfl) ?_
 refine stepG [] (zD rfl rfl rfl) rfl (nb hn rfl) (fun hc => trivial) (fun hc => zG rfl rfl) ?_
 refine stepG [(120, _)] (zD rfl rfl rfl) rfl (nb hn rfl) (fun hc => ⟨⟨_, rfl, hc⟩, trivial⟩) (fun hc => yG rfl rfl rfl) ?_
 refine sq rfl rfl hn rfl (zy rfl rfl rfl (by intro hB; first | (rw [hB]; rfl) | (rw [hB, hc]; rfl) | simp_all)) ?_
 refine sq rfl rfl hn rfl (zG rfl rfl) ?_
 refine stepG [] (zD rfl rfl rfl) rfl (nb hn rfl) (fun hc => trivial) (fun hc => zG rfl rfl) ?_
 refine stepW (yL (zD rfl rfl rfl) rfl (nb hn rfl) (zP rfl rfl rfl (nb hn rfl) Tryz.underlying22 sz3 zr3 rfl rfl rfl (show _ = [.d (.int .i64 0), .d (.int .i64 0)] from by kernel_rfl) (by kernel_rfl) rfl rfl rfl rfl rfl)) fun _ => ?_
 refine stepW (s_call [(124, _), (125, _)] (fun hc => kA [3, 1] [3, 1]) rfl (zD rfl rfl rfl) rfl (nb hn rfl) (fun hc => ⟨⟨_, rfl, hc⟩, ⟨_, rfl, hc⟩, trivial⟩) rfl rfl (.refl _)) fun _ => ?_
 refine sq rfl rfl hn rfl (zy rfl rfl rfl (by intro hB; first | (rw [hB]; rfl) | (rw [hB, hc]; rfl) | simp_all)) ?_
 refine sq rfl rfl hn rfl (zG rfl rfl) ?_
 refine stepG [] (zD rfl rfl rfl) rfl (nb hn rfl) (fun hc => trivial) (fun hc => zG rfl rfl) ?_
 refine stepG [(129, _)] (zD rfl rfl rfl) rfl (nb hn rfl) (fun hc => ⟨⟨_, rfl, hc⟩, trivial⟩) (fun hc => yG rfl rfl rfl) ?_
 refine sq rfl rfl hn rfl (zy rfl rfl rfl (by intro hB; first | (rw [hB]; rfl) | (rw [hB, hc]; rfl) | simp_all)) ?_
 refine sq rfl rfl hn rfl (zG rfl rfl) ?_
 refine stepG [] (zD rfl rfl rfl) rfl (nb hn rfl) (fun hc => trivial) (fun hc => zG rfl rfl) ?_
 refine stepW (yL (zD rfl rfl rfl) rfl (nb hn rfl) (zP rfl rfl rfl (nb hn rfl) Tryz.underlying22 sz3 zr3 rfl rfl rfl (show _ = [.d (.int .i64 0)] from by kernel_rfl) (by kernel_rfl) rfl rfl rfl rfl rfl)) fun _ => ?_
 refine stepW (s_call [(133, _), (134, _)] (fun hc => kA [1] [1]) rfl (zD rfl rfl rfl) rfl (nb hn rfl) (fun hc => ⟨⟨_, rfl, hc⟩, ⟨_, rfl, hc⟩, trivial⟩) rfl rfl (.refl _)) fun _ => ?_
 refine sq rfl rfl hn rfl (zy rfl rfl rfl (by intro hB; first | (rw [hB]; rfl) | (rw [hB, hc]; rfl) | simp_all)) ?_
 refine sq rfl rfl hn rfl (zF rfl rfl) ?_
 refine zE (zA (zO ?_))
 refine zp (zt (.inl rfl) hl rfl (.tmp rfl)) ?_
 rfl
end Go.Proofs.YtaokpncjemkhcaaGreat
namespace Go.Proofs.YtaokpncjemkhcaaGreat
open Go.RowKit
set_option maxRecDepth 20000
set_option linter.all false
structure TopOK (r : Reg) (N H : Nat) (a b n : Int) : Prop where
  v : Valid r
  g : r.sights = []
  hH : r.houses = (H : Int)
  hN : N ≤ 9
  ha : 0 ≤ a ∧ a < H
  hb : 0 ≤ b ∧ b < H
  hab : a ≠ b
  hn : 1 ≤ n ∧ n ≤ 4
section
variable {r : Reg} {N H : Nat} {a b n : Int}
end
end Go.Proofs.YtaokpncjemkhcaaGreat
namespace Go.Proofs.YtaokpncjemkhcaaGreat
open Go.RowKit
set_option maxRecDepth 20000
set_option linter.all false
section
variable {Γ : Cx} {P : Program} {σ : St} {fn : Func}
theorem zDX {t b off id n : Nat} {ty bt : TypeId} {cs seg : List TV} {desc : TypeDesc} (h : fn.results = #[.cell t ty]) (ht : σ.get t = some (true, .val (.pointer (some ⟨b, off, none⟩)))) (hr : σ.rget id = some (.box b bt cs))
    (hu : P.underlying ty = some desc) (hd : rowD desc = true) (hz : Sz P ty n) (hc : (cs.drop off).take n = seg) (hn : seg.length = n) : Hands Γ P fn σ (.agg seg) := fun a w F hs => by
  have h1 := (hs.tm _ true _ ht).1 rfl
  simp only [TRep] at h1
  obtain ⟨_, _, vs, hh, hvs, hone⟩ := hs.rs _ _ hr
  have hseg : TReps F w seg ((vs.drop off).take n) := by rw [← hc]; exact (hvs.drop off).take n
  have hlen := hseg.length
  have hl := yl (P := P) (w := w) (b := b) (o := off) (vs := (vs.drop off).take n) hu hd (by rw [hlen, hn]; exact hz) (fun j v hv => by
    have : vs[off + j]? = some v := by
      rw [List.getElem?_take] at hv
      split at hv
      · rwa [List.getElem?_drop] at hv
      · cases hv
    exact (yY hh).trans this)
  have hone1 : (resOne a.tmps (.cell t ty)).run P w = .ok (.agg ((vs.drop off).take n).toArray) w := by simp only [resOne, h1, asAddr, Sem.run_bind, Sem.run_pure, Result.andThen_ok, hl]
  exact ⟨.agg ((vs.drop off).take n).toArray, by rw [yd h]; simp [hone1], _, rfl, hseg, fun u hu => hone u (List.mem_of_mem_drop (List.mem_of_mem_take hu))⟩
end
def entT (l : List Ent5) : List TV := (l.map entE).flatten.map .d
theorem vec_consG {v : Value} {cs : List TV} {m sz : Nat} (hV : VecV v sz cs) (hl : cs.length = m * sz) (h : 0 < m) (hs : 0 < sz) : ∃ b cap, v = .slice (some ⟨b, 0, none⟩) m cap ∧ m ≤ cap ∧ cap ≤ maxLen := by
  rcases hV with ⟨_, h1⟩ | ⟨b, n, cap, rfl, h1, h2, h3⟩
  · subst h1; have := Nat.mul_pos h hs; simp at hl; omega
  · obtain rfl : n = m := Nat.eq_of_mul_eq_mul_right hs (h3.symm.trans hl)
    exact ⟨b, cap, rfl, h1, h2⟩
def nm4 : Ldg := ⟨⟨3, [0, 1], twoL.reg.entries ++ [⟨0, 1, 2, 0, 0, 9⟩], []⟩, 3, [false, false, true], twoL.dues⟩
def nm5 : Ldg := ⟨twoL.reg, 3, twoL.lends, [⟨0, 0, 1⟩, ⟨1, 2, 2⟩]⟩
def nm6 : Ldg := ⟨twoL.reg, 3, twoL.lends, List.replicate 7 ⟨0, 0, 0⟩⟩
def nm7 : Ldg := ⟨twoL.reg, 3, [false, false], twoL.dues⟩
def nm8 : Ldg := ⟨twoL.reg, 10, twoL.lends, twoL.dues⟩
def nm9 : Ldg := ⟨⟨3, [0, 1], twoL.reg.entries, [⟨0, 0, 0⟩]⟩, 3, twoL.lends, twoL.dues⟩
def nm10 : Ldg := ⟨twoL.reg, 3, twoL.lends, [⟨0, 2, 4⟩]⟩
def nm0 : Ldg := ⟨⟨0, [], [], []⟩, 0, [], []⟩
theorem nm_b1 : bestX twoL [1, 0, 1] = ([1, 2], 0, 0) := by kernel_rfl
theorem nm_b2 : bestX twoL [0, 5, 0] = ([], 0, 2) := by kernel_rfl
theorem nm_p1 : proveB twoL [0, 2, 0] [0, 2] 1 = true := by kernel_rfl
theorem nm_p2 : proveB twoL [0, 2, 0] [0, 2] 0 = false := by kernel_rfl
theorem nm_p3 : proveB twoL [0, 2, 0] [1, 2] 9 = false := by kernel_rfl
theorem nm_p4 : proveB twoL [0, 2] [0, 2] 9 = false := by kernel_rfl
theorem nm_p5 : proveB twoL [0, 2, 0] [0, 3] 9 = false := by kernel_rfl
theorem nm_h4 : knownR nm4 = ([], 9) := by kernel_rfl
theorem nm_v4 : verdX nm4 = ([], 9) := by kernel_rfl
theorem nm_e4 : enoughX nm4 = ([], 9) := by kernel_rfl
theorem nm_v10 : verdX nm10 = ([2], 0) := by kernel_rfl
theorem nm_e10 : enoughX nm10 = ([], 10) := by kernel_rfl
theorem nm_c5 : checkL nm5 = 1 := by kernel_rfl
theorem nm_c6 : checkL nm6 = 3 := by kernel_rfl
theorem nm_c7 : checkL nm7 = 1 := by kernel_rfl
theorem nm_c8 : checkL nm8 = 1 := by kernel_rfl
theorem nm_c9 : checkL nm9 = 1 := by kernel_rfl
theorem nm_c0 : checkL nm0 = 1 := by kernel_rfl
theorem two8_vec  : EffAt Tryz.prog 49 [] [] (X := Nat) (fun x => .agg [.d (.int .i64 3), .d (ints [0, 1]), .d (entsD twoL.reg.entries), .d .nil, .d (.int .i64 3), .d (boolsD [false, false, true]), .val (.slice (some ⟨x, 0, none⟩) 2 2)]) (fun x => [(1101, .box x 88 [.d (.int .i64 0), .d (.int .i64 1), .d (.int .i64 1), .d (.int .i64 1), .d (.int .i64 2), .d (.int .i64 2)])]) := by
 refine EffAt.of_awp Tryz.func49 rfl (by kernel_rfl) rfl fun Γ hn => ?_
 refine zC (zB ?_)
 refine stepW (zh 0 rfl rfl rfl (nb hn rfl) zr50 rfl rfl) fun b0 => ?_
 refine zE (zA (zC (zB ?_)))
 refine stepW (zP rfl rfl rfl (nb hn rfl) Tryz.underlying22 sz3 zr3 rfl rfl rfl (show _ = [.d (.int .i64 0), .d (.int .i64 0)] from by kernel_rfl) (by kernel_rfl) rfl rfl rfl rfl rfl) fun _ => ?_
 refine sq rfl rfl hn rfl (zg rfl bt37 rfl rfl rfl rfl rfl) ?_
 refine sq rfl rfl hn rfl (zg rfl bt87 rfl rfl rfl rfl rfl) ?_
 refine sq rfl rfl hn rfl (zg rfl bt37 rfl rfl rfl rfl rfl) ?_
 refine sq rfl rfl hn rfl (zg rfl bt87 rfl rfl rfl rfl rfl) ?_
 refine sq rfl rfl hn rfl (zg rfl bt37 rfl rfl rfl rfl rfl) ?_
 refine sq rfl rfl hn rfl (zg rfl bt87 rfl rfl rfl rfl rfl) ?_
 refine stepW (zP rfl rfl rfl (nb hn rfl) Tryz.underlying41 sz87 zr87 rfl rfl rfl (show _ = [.d (.int .i64 0), .d (.int .i64 0), .d (.int .i64 0), .d (.int .i64 0), .d (.int .i64 0), .d (.int .i64 0), .d (.int .i64 0), .d (.int .i64 0), .d (.int .i64 0), .d (.int .i64 0), .d (.int .i64 0), .d (.int .i64 0), .d (.int .i64 0), .d (.int .i64 0), .d (.int .i64 0), .d (.int .i64 0), .d (.int .i64 0), .d (.int .i64 0)] from by kernel_rfl) (by kernel_rfl) rfl rfl rfl rfl rfl) fun _ => ?_
 refine sq rfl rfl hn rfl (zg rfl bt44 rfl rfl rfl rfl rfl) ?_
 refine stepW (zP rfl rfl rfl (nb hn rfl) Tryz.underlying30 sz4 zr4 rfl rfl rfl (show _ = [.d (.bool false), .d (.bool false), .d (.bool false)] from by kernel_rfl) (by kernel_rfl) rfl rfl rfl rfl rfl) fun _ => ?_
 refine sq rfl rfl hn rfl (zg rfl bt88 rfl rfl rfl rfl rfl) ?_
 refine sq rfl rfl hn rfl (zg rfl bt88 rfl rfl rfl rfl rfl) ?_
 refine stepW (zAm 1101 rfl rfl rfl (nb hn rfl) Tryz.underlying48 sz88 zr88 rfl rfl (show _ = [.d (.int .i64 0), .d (.int .i64 0), .d (.int .i64 0), .d (.int .i64 0), .d (.int .i64 0), .d (.int .i64 0)] from by kernel_rfl) (by kernel_rfl) rfl rfl) fun b13 => ?_
 refine sq rfl rfl hn rfl (zBw rfl bt50 rfl rfl rfl rfl) ?_
 refine stepW (zl rfl rfl rfl rfl rfl rfl (id := 0) rfl sz50 rfl (Nat.le_of_ble_eq_true rfl) rfl trivial) fun _ => ?_
 refine zE (zA (zO ?_))
 exact ret_E (.inl rfl) b13 (zDX (id := 0) rfl rfl rfl Tryz.underlying50 rfl sz50 rfl rfl) ⟨rfl, trivial⟩
theorem two8_row  : EffAt Tryz.prog 49 [] [] (X := Nat) (fun x => .agg [.d (.int .i64 3), .d (ints [0, 1]), .val (.slice (some ⟨x, 0, none⟩) 3 3), .d .nil, .d (.int .i64 3), .d (boolsD [false, false, true]), .d (duesD twoL.dues)]) (fun x => [(1103, .box x 87 (entT twoL.reg.entries))]) := by
 refine EffAt.of_awp Tryz.func49 rfl (by kernel_rfl) rfl fun Γ hn => ?_
 refine zC (zB ?_)
 refine stepW (zh 0 rfl rfl rfl (nb hn rfl) zr50 rfl rfl) fun b0 => ?_
 refine zE (zA (zC (zB ?_)))
 refine stepW (zP rfl rfl rfl (nb hn rfl) Tryz.underlying22 sz3 zr3 rfl rfl rfl (show _ = [.d (.int .i64 0), .d (.int .i64 0)] from by kernel_rfl) (by kernel_rfl) rfl rfl rfl rfl rfl) fun _ => ?_
 refine sq rfl rfl hn rfl (zg rfl bt37 rfl rfl rfl rfl rfl) ?_
 refine sq rfl rfl hn rfl (zg rfl bt87 rfl rfl rfl rfl rfl) ?_
 refine sq rfl rfl hn rfl (zg rfl bt37 rfl rfl rfl rfl rfl) ?_
 refine sq rfl rfl hn rfl (zg rfl bt87 rfl rfl rfl rfl rfl) ?_
 refine sq rfl rfl hn rfl (zg rfl bt37 rfl rfl rfl rfl rfl) ?_
 refine sq rfl rfl hn rfl (zg rfl bt87 rfl rfl rfl rfl rfl) ?_
 refine stepW (zAm 1103 rfl rfl rfl (nb hn rfl) Tryz.underlying41 sz87 zr87 rfl rfl (show _ = [.d (.int .i64 0), .d (.int .i64 0), .d (.int .i64 0), .d (.int .i64 0), .d (.int .i64 0), .d (.int .i64 0), .d (.int .i64 0), .d (.int .i64 0), .d (.int .i64 0), .d (.int .i64 0), .d (.int .i64 0), .d (.int .i64 0), .d (.int .i64 0), .d (.int .i64 0), .d (.int .i64 0), .d (.int .i64 0), .d (.int .i64 0), .d (.int .i64 0)] from by kernel_rfl) (by kernel_rfl) rfl rfl) fun b8 => ?_
 refine sq rfl rfl hn rfl (zBw rfl bt44 rfl rfl rfl rfl) ?_
 refine stepW (zP rfl rfl rfl (nb hn rfl) Tryz.underlying30 sz4 zr4 rfl rfl rfl (show _ = [.d (.bool false), .d (.bool false), .d (.bool false)] from by kernel_rfl) (by kernel_rfl) rfl rfl rfl rfl rfl) fun _ => ?_
 refine sq rfl rfl hn rfl (zg rfl bt88 rfl rfl rfl rfl rfl) ?_
 refine sq rfl rfl hn rfl (zg rfl bt88 rfl rfl rfl rfl rfl) ?_
 refine stepW (zP rfl rfl rfl (nb hn rfl) Tryz.underlying48 sz88 zr88 rfl rfl rfl (show _ = [.d (.int .i64 0), .d (.int .i64 0), .d (.int .i64 0), .d (.int .i64 0), .d (.int .i64 0), .d (.int .i64 0)] from by kernel_rfl) (by kernel_rfl) rfl rfl rfl rfl rfl) fun _ => ?_
 refine sq rfl rfl hn rfl (zBw rfl bt50 rfl rfl rfl rfl) ?_
 refine stepW (zl rfl rfl rfl rfl rfl rfl (id := 0) rfl sz50 rfl (Nat.le_of_ble_eq_true rfl) rfl trivial) fun _ => ?_
 refine zE (zA (zO ?_))
 exact ret_E (.inl rfl) b8 (zDX (id := 0) rfl rfl rfl Tryz.underlying50 rfl sz50 rfl rfl) ⟨rfl, trivial⟩
theorem ShortNames_eff  : EffAt Tryz.prog 13 [] [] (X := Unit) (fun _ => .d (.bool true)) (fun _ => []) := by
 refine EffAt.of_awp Tryz.func13 rfl (by kernel_rfl) rfl fun Γ hn => ?_
 refine zC (zB ?_)
 refine sq rfl rfl hn rfl (zF rfl rfl) ?_
 refine zE (zA (zC (zB ?_)))
 refine stepW (s_call [] (fun _ => yZ) rfl (zI rfl) rfl (nb hn rfl) (fun _ => trivial) rfl rfl (.refl _)) fun _ => ?_
 refine stepW (zP rfl rfl rfl (nb hn rfl) Tryz.underlying22 sz3 zr3 rfl rfl rfl (show _ = [.d (.int .i64 0), .d (.int .i64 0), .d (.int .i64 0)] from by kernel_rfl) (by kernel_rfl) rfl rfl rfl rfl rfl) fun _ => ?_
 refine stepW (s_call [] (fun _ => (by have h6 := zBv twoL [1, 0, 1]; rw [nm_b1] at h6; exact h6)) rfl (zI rfl) rfl (nb hn rfl) (fun _ => trivial) rfl rfl (.refl _)) fun _ => ?_
 refine sq rfl rfl hn rfl (zG rfl rfl) ?_
 refine sq rfl rfl hn rfl (zT rfl rfl rfl) ?_
 refine sq rfl rfl hn rfl (zT rfl rfl rfl) ?_
 refine sq rfl rfl hn rfl (zT rfl rfl rfl) ?_
 refine sq rfl rfl hn rfl (zF rfl rfl) ?_
 refine sq rfl rfl hn rfl (zF rfl rfl) ?_
 refine sq rfl rfl hn rfl (zF rfl rfl) ?_
 refine zE (zA (zC (zC (zB ?_))))
 refine sq rfl rfl hn rfl (zG rfl rfl) ?_
 refine sq rfl rfl hn rfl (yX rfl rfl rfl) ?_
 refine sq rfl rfl hn rfl (zG rfl rfl) ?_
 refine stepG [] (zD rfl rfl rfl) rfl (nb hn rfl) (fun hc => trivial) (fun hc => zG rfl rfl) ?_
 refine stepW (yL (zD rfl rfl rfl) rfl (nb hn rfl) (zP rfl rfl rfl (nb hn rfl) Tryz.underlying22 sz3 zr3 rfl rfl rfl (show _ = [.d (.int .i64 0), .d (.int .i64 0)] from by kernel_rfl) (by kernel_rfl) rfl rfl rfl rfl rfl)) fun _ => ?_
 refine stepW (s_call [(31, _), (32, _)] (fun hc => kA [1, 2] [1, 2]) rfl (zD rfl rfl rfl) rfl (nb hn rfl) (fun hc => ⟨⟨_, rfl, hc⟩, ⟨_, rfl, hc⟩, trivial⟩) rfl rfl (.refl _)) fun _ => ?_
 refine stepG [(33, _)] (zD rfl rfl rfl) rfl (nb hn rfl) (fun hc => ⟨⟨_, rfl, hc⟩, trivial⟩) (fun hc => yF rfl rfl) ?_
 refine sq rfl rfl hn rfl (q_or rfl rfl rfl (by intro hB; first | (rw [hB]; rfl) | (rw [hB, hc]; rfl) | simp_all)) ?_
 refine sq rfl rfl hn rfl (zG rfl rfl) ?_
 refine stepG [] (zD rfl rfl rfl) rfl (nb hn rfl) (fun hc => trivial) (fun hc => zG rfl rfl) ?_
 refine stepG [(37, _)] (zD rfl rfl rfl) rfl (nb hn rfl) (fun hc => ⟨⟨_, rfl, hc⟩, trivial⟩) (fun hc => yX rfl rfl rfl) ?_
 refine sq rfl rfl hn rfl (q_or rfl rfl rfl (by intro hB; first | (rw [hB]; rfl) | (rw [hB, hc]; rfl) | simp_all)) ?_
 refine sq rfl rfl hn rfl (zG rfl rfl) ?_
 refine stepW (s_call [] (fun hc => yZ) rfl (zD rfl rfl rfl) rfl (nb hn rfl) (fun hc => trivial) rfl rfl (.refl _)) fun _ => ?_
 refine stepW (yL (zD rfl rfl rfl) rfl (nb hn rfl) (zP rfl rfl rfl (nb hn rfl) Tryz.underlying22 sz3 zr3 rfl rfl rfl (show _ = [.d (.int .i64 0), .d (.int .i64 0), .d (.int .i64 0)] from by kernel_rfl) (by kernel_rfl) rfl rfl rfl rfl rfl)) fun _ => ?_
 refine stepW (yL (zD rfl rfl rfl) rfl (nb hn rfl) (zP rfl rfl rfl (nb hn rfl) Tryz.underlying22 sz3 zr3 rfl rfl rfl (show _ = [.d (.int .i64 0), .d (.int .i64 0)] from by kernel_rfl) (by kernel_rfl) rfl rfl rfl rfl rfl)) fun _ => ?_
 refine stepW (s_call [(41, _), (42, _), (43, _)] (fun hc => (by have h6 := zAJ twoL [0, 2, 0] [0, 2] 1; rw [nm_p1] at h6; exact h6)) rfl (zD rfl rfl rfl) rfl (nb hn rfl) (fun hc => ⟨⟨_, rfl, hc⟩, ⟨_, rfl, hc⟩, ⟨_, rfl, hc⟩, trivial⟩) rfl rfl (.refl _)) fun _ => ?_
 refine stepG [(44, _)] (zD rfl rfl rfl) rfl (nb hn rfl) (fun hc => ⟨⟨_, rfl, hc⟩, trivial⟩) (fun hc => yF rfl rfl) ?_
 refine sq rfl rfl hn rfl (q_or rfl rfl rfl (by intro hB; first | (rw [hB]; rfl) | (rw [hB, hc]; rfl) | simp_all)) ?_
 refine sq rfl rfl hn rfl (zG rfl rfl) ?_
 refine stepW (s_call [] (fun hc => yZ) rfl (zD rfl rfl rfl) rfl (nb hn rfl) (fun hc => trivial) rfl rfl (.refl _)) fun _ => ?_
 refine stepW (yL (zD rfl rfl rfl) rfl (nb hn rfl) (zP rfl rfl rfl (nb hn rfl) Tryz.underlying22 sz3 zr3 rfl rfl rfl (show _ = [.d (.int .i64 0), .d (.int .i64 0), .d (.int .i64 0)] from by kernel_rfl) (by kernel_rfl) rfl rfl rfl rfl rfl)) fun _ => ?_
 refine stepW (yL (zD rfl rfl rfl) rfl (nb hn rfl) (zP rfl rfl rfl (nb hn rfl) Tryz.underlying22 sz3 zr3 rfl rfl rfl (show _ = [.d (.int .i64 0), .d (.int .i64 0)] from by kernel_rfl) (by kernel_rfl) rfl rfl rfl rfl rfl)) fun _ => ?_
 refine stepW (s_call [(48, _), (49, _), (50, _)] (fun hc => (by have h6 := zAJ twoL [0, 2, 0] [0, 2] 0; rw [nm_p2] at h6; exact h6)) rfl (zD rfl rfl rfl) rfl (nb hn rfl) (fun hc => ⟨⟨_, rfl, hc⟩, ⟨_, rfl, hc⟩, ⟨_, rfl, hc⟩, trivial⟩) rfl rfl (.refl _)) fun _ => ?_
 refine sq rfl rfl hn rfl (q_or rfl rfl rfl (by intro hB; first | (rw [hB]; rfl) | (rw [hB, hc]; rfl) | simp_all)) ?_
 refine sq rfl rfl hn rfl (zG rfl rfl) ?_
 refine stepW (s_call [] (fun hc => yZ) rfl (zD rfl rfl rfl) rfl (nb hn rfl) (fun hc => trivial) rfl rfl (.refl _)) fun _ => ?_
 refine stepW (yL (zD rfl rfl rfl) rfl (nb hn rfl) (zP rfl rfl rfl (nb hn rfl) Tryz.underlying22 sz3 zr3 rfl rfl rfl (show _ = [.d (.int .i64 0), .d (.int .i64 0), .d (.int .i64 0)] from by kernel_rfl) (by kernel_rfl) rfl rfl rfl rfl rfl)) fun _ => ?_
 refine stepW (yL (zD rfl rfl rfl) rfl (nb hn rfl) (zP rfl rfl rfl (nb hn rfl) Tryz.underlying22 sz3 zr3 rfl rfl rfl (show _ = [.d (.int .i64 0), .d (.int .i64 0)] from by kernel_rfl) (by kernel_rfl) rfl rfl rfl rfl rfl)) fun _ => ?_
 refine stepW (s_call [(54, _), (55, _), (56, _)] (fun hc => (by have h6 := zAJ twoL [0, 2, 0] [1, 2] 9; rw [nm_p3] at h6; exact h6)) rfl (zD rfl rfl rfl) rfl (nb hn rfl) (fun hc => ⟨⟨_, rfl, hc⟩, ⟨_, rfl, hc⟩, ⟨_, rfl, hc⟩, trivial⟩) rfl rfl (.refl _)) fun _ => ?_
 refine sq rfl rfl hn rfl (q_or rfl rfl rfl (by intro hB; first | (rw [hB]; rfl) | (rw [hB, hc]; rfl) | simp_all)) ?_
 refine sq rfl rfl hn rfl (zG rfl rfl) ?_
 refine stepW (s_call [] (fun hc => yZ) rfl (zD rfl rfl rfl) rfl (nb hn rfl) (fun hc => trivial) rfl rfl (.refl _)) fun _ => ?_
 refine stepW (yL (zD rfl rfl rfl) rfl (nb hn rfl) (zP rfl rfl rfl (nb hn rfl) Tryz.underlying22 sz3 zr3 rfl rfl rfl (show _ = [.d (.int .i64 0), .d (.int .i64 0)] from by kernel_rfl) (by kernel_rfl) rfl rfl rfl rfl rfl)) fun _ => ?_
 refine stepW (yL (zD rfl rfl rfl) rfl (nb hn rfl) (zP rfl rfl rfl (nb hn rfl) Tryz.underlying22 sz3 zr3 rfl rfl rfl (show _ = [.d (.int .i64 0), .d (.int .i64 0)] from by kernel_rfl) (by kernel_rfl) rfl rfl rfl rfl rfl)) fun _ => ?_
 refine stepW (s_call [(60, _), (61, _), (62, _)] (fun hc => (by have h6 := zAJ twoL [0, 2] [0, 2] 9; rw [nm_p4] at h6; exact h6)) rfl (zD rfl rfl rfl) rfl (nb hn rfl) (fun hc => ⟨⟨_, rfl, hc⟩, ⟨_, rfl, hc⟩, ⟨_, rfl, hc⟩, trivial⟩) rfl rfl (.refl _)) fun _ => ?_
 refine sq rfl rfl hn rfl (q_or rfl rfl rfl (by intro hB; first | (rw [hB]; rfl) | (rw [hB, hc]; rfl) | simp_all)) ?_
 refine sq rfl rfl hn rfl (zG rfl rfl) ?_
 refine stepW (s_call [] (fun hc => yZ) rfl (zD rfl rfl rfl) rfl (nb hn rfl) (fun hc => trivial) rfl rfl (.refl _)) fun _ => ?_
 refine stepW (yL (zD rfl rfl rfl) rfl (nb hn rfl) (zP rfl rfl rfl (nb hn rfl) Tryz.underlying22 sz3 zr3 rfl rfl rfl (show _ = [.d (.int .i64 0), .d (.int .i64 0), .d (.int .i64 0)] from by kernel_rfl) (by kernel_rfl) rfl rfl rfl rfl rfl)) fun _ => ?_
 refine stepW (yL (zD rfl rfl rfl) rfl (nb hn rfl) (zP rfl rfl rfl (nb hn rfl) Tryz.underlying22 sz3 zr3 rfl rfl rfl (show _ = [.d (.int .i64 0), .d (.int .i64 0)] from by kernel_rfl) (by kernel_rfl) rfl rfl rfl rfl rfl)) fun _ => ?_
 refine stepW (s_call [(66, _), (67, _), (68, _)] (fun hc => (by have h6 := zAJ twoL [0, 2, 0] [0, 3] 9; rw [nm_p5] at h6; exact h6)) rfl (zD rfl rfl rfl) rfl (nb hn rfl) (fun hc => ⟨⟨_, rfl, hc⟩, ⟨_, rfl, hc⟩, ⟨_, rfl, hc⟩, trivial⟩) rfl rfl (.refl _)) fun _ => ?_
 refine sq rfl rfl hn rfl (q_or rfl rfl rfl (by intro hB; first | (rw [hB]; rfl) | (rw [hB, hc]; rfl) | simp_all)) ?_
 refine zE (zA ?_)
 refine zS rfl (fun hb0 => ?_) (fun hb0 => ?_)
 ·
  exact absurd (show false = true from hb0) (by decide)
 ·
  refine zU (zA (zC (zB ?_)))
  refine stepW (s_call [] (fun _ => yZ) rfl (zI rfl) rfl (nb hn rfl) (fun _ => trivial) rfl rfl (.refl _)) fun _ => ?_
  refine stepW (zP rfl rfl rfl (nb hn rfl) Tryz.underlying22 sz3 zr3 rfl rfl rfl (show _ = [.d (.int .i64 0), .d (.int .i64 0), .d (.int .i64 0)] from by kernel_rfl) (by kernel_rfl) rfl rfl rfl rfl rfl) fun _ => ?_
  refine stepW (s_call [] (fun _ => (by have h6 := zBv twoL [0, 5, 0]; rw [nm_b2] at h6; exact h6)) rfl (zI rfl) rfl (nb hn rfl) (fun _ => trivial) rfl rfl (.refl _)) fun _ => ?_
  refine sq rfl rfl hn rfl (zG rfl rfl) ?_
  refine sq rfl rfl hn rfl (zT rfl rfl rfl) ?_
  refine sq rfl rfl hn rfl (zT rfl rfl rfl) ?_
  refine sq rfl rfl hn rfl (zT rfl rfl rfl) ?_
  refine sq rfl rfl hn rfl (zF rfl rfl) ?_
  refine zE (zA (zC (zB ?_)))
  refine stepW (s_callE (two8_row) rfl rfl rfl (nb hn rfl) (.d rfl) rfl (.refl _) trivial (fun _ => rfl) (fun _ _ => trivial)) fun b78 => ?_
  refine stepW (s_callE (two8_vec) rfl rfl rfl (nb hn rfl) (.d rfl) rfl (.refl _) trivial (fun _ => rfl) (fun _ _ => trivial)) fun b79 => ?_
  refine stepW (s_call [] (fun _ => yZ) rfl (zI rfl) rfl (nb hn rfl) (fun _ => trivial) rfl rfl (.refl _)) fun _ => ?_
  refine stepW (s_call [] (fun _ => yZ) rfl (zI rfl) rfl (nb hn rfl) (fun _ => trivial) rfl rfl (.refl _)) fun _ => ?_
  refine stepW (s_call [] (fun _ => yZ) rfl (zI rfl) rfl (nb hn rfl) (fun _ => trivial) rfl rfl (.refl _)) fun _ => ?_
  refine stepW (s_call [] (fun _ => yZ) rfl (zI rfl) rfl (nb hn rfl) (fun _ => trivial) rfl rfl (.refl _)) fun _ => ?_
  refine stepW (s_call [] (fun _ => yZ) rfl (zI rfl) rfl (nb hn rfl) (fun _ => trivial) rfl rfl (.refl _)) fun _ => ?_
  refine stepW (zh 4 rfl rfl rfl (nb hn rfl) zr50 rfl rfl) fun b4 => ?_
  refine stepW (zh 5 rfl rfl rfl (nb hn rfl) zr50 rfl rfl) fun b5 => ?_
  refine stepW (zh 6 rfl rfl rfl (nb hn rfl) zr50 rfl rfl) fun b6 => ?_
  refine stepW (zh 7 rfl rfl rfl (nb hn rfl) zr50 rfl rfl) fun b7 => ?_
  refine stepW (zh 8 rfl rfl rfl (nb hn rfl) zr50 rfl rfl) fun b8 => ?_
  refine stepW (zh 9 rfl rfl rfl (nb hn rfl) zr50 rfl rfl) fun b9 => ?_
  refine stepW (zh 10 rfl rfl rfl (nb hn rfl) zr50 rfl rfl) fun b10 => ?_
  refine stepW (zl rfl rfl rfl rfl rfl rfl (id := 4) rfl sz50 rfl (Nat.le_of_ble_eq_true rfl) rfl trivial) fun _ => ?_
  refine stepW (zl rfl rfl rfl rfl rfl rfl (id := 5) rfl sz50 rfl (Nat.le_of_ble_eq_true rfl) rfl trivial) fun _ => ?_
  refine stepW (zl rfl rfl rfl rfl rfl rfl (id := 6) rfl sz50 rfl (Nat.le_of_ble_eq_true rfl) rfl trivial) fun _ => ?_
  refine stepW (zl rfl rfl rfl rfl rfl rfl (id := 7) rfl sz50 rfl (Nat.le_of_ble_eq_true rfl) rfl trivial) fun _ => ?_
  refine stepW (zl rfl rfl rfl rfl rfl rfl (id := 8) rfl sz50 rfl (Nat.le_of_ble_eq_true rfl) rfl trivial) fun _ => ?_
  refine stepW (zl rfl rfl rfl rfl rfl rfl (id := 9) rfl sz50 rfl (Nat.le_of_ble_eq_true rfl) rfl trivial) fun _ => ?_
  refine stepW (zl rfl rfl rfl rfl rfl rfl (id := 10) rfl sz50 rfl (Nat.le_of_ble_eq_true rfl) rfl trivial) fun _ => ?_
  refine zE (zA (zC (zB ?_)))
  refine sq rfl rfl hn rfl (zH rfl rfl Tryz.underlying50 rfl sz44) ?_
  refine sq rfl rfl hn rfl (zH rfl rfl Tryz.underlying44 rfl sz41) ?_
  refine sq rfl rfl hn rfl (zQ rfl rfl (id := 4) rfl Tryz.underlying41 rfl rfl sees0) ?_
  refine sq rfl rfl hn rfl (zg rfl bt37 rfl rfl rfl rfl rfl) ?_
  refine sq rfl rfl hn rfl (zg rfl bt87 rfl rfl rfl rfl rfl) ?_
  refine stepW (zP rfl rfl rfl (nb hn rfl) Tryz.underlying41 sz87 zr87 rfl rfl rfl (show _ = [.d (.int .i64 0), .d (.int .i64 0), .d (.int .i64 0), .d (.int .i64 0), .d (.int .i64 0), .d (.int .i64 0)] from by kernel_rfl) (by kernel_rfl) rfl rfl rfl rfl rfl) fun _ => ?_
  refine stepW (zAb (id := 1103) rfl rfl rfl (nb hn rfl) elt41 zr87 rfl (show VecV (.slice (some ⟨b78, 0, none⟩) 3 3) 6 (entT twoL.reg.entries) from .inr ⟨b78, 3, 3, rfl, by decide, by decide, rfl⟩) rfl rfl rfl (by decide) (by decide) (fun _ _ => trivial)) fun ⟨v91, hV91⟩ => ?_
  obtain ⟨b91, cap, rfl, hcap, hcm⟩ := vec_consG (m := 4) hV91 rfl (by decide) (by decide)
  refine sq rfl rfl hn rfl (zH rfl rfl Tryz.underlying50 rfl sz44) ?_
  refine sq rfl rfl hn rfl (zH rfl rfl Tryz.underlying44 rfl sz41) ?_
  refine stepW (s_store1 rfl rfl rfl rfl rfl rfl (id := 4) rfl sz41 (Nat.le_of_ble_eq_true rfl) rfl trivial) fun _ => ?_
  refine zE (zA (zC (zB ?_)))
  refine sq rfl rfl hn rfl (zH rfl rfl Tryz.underlying50 rfl sz48) ?_
  refine sq rfl rfl hn rfl (zQ rfl rfl (id := 5) rfl Tryz.underlying48 rfl rfl sees0) ?_
  refine sq rfl rfl hn rfl (q_indexV (i := 0) rfl rfl rfl Tryz.underlying48 sz88 rfl (by omega)) ?_
  refine sq rfl rfl hn rfl (zH rfl rfl Tryz.underlying88 rfl sz3) ?_
  refine stepW (s_store1 rfl rfl rfl rfl rfl rfl (id := 1101) rfl sz3 (Nat.le_of_ble_eq_true rfl) rfl trivial) fun _ => ?_
  refine zE (zA (zC (zB ?_)))
  refine stepW (kW (n := 7) 98 rfl rfl rfl (nb hn rfl) Tryz.underlying48 (show _ = some (some (.agg #[(.int .i64 0), (.int .i64 0), (.int .i64 0)]), 3, 24) from by kernel_rfl) rfl rfl rfl (by decide) rfl rfl rfl rfl (by omega) (by omega) (by omega)) fun b98 => ?_
  refine sq rfl rfl hn rfl (zH rfl rfl Tryz.underlying50 rfl sz48) ?_
  refine stepW (s_store1 rfl rfl rfl rfl rfl rfl (id := 6) rfl sz48 (Nat.le_of_ble_eq_true rfl) rfl trivial) fun _ => ?_
  refine zE (zA (zC (zB ?_)))
  refine sq rfl rfl hn rfl (zH rfl rfl Tryz.underlying50 rfl sz30) ?_
  refine sq rfl rfl hn rfl (zQ rfl rfl (id := 7) rfl Tryz.underlying30 rfl rfl sees0) ?_
  refine sq rfl rfl hn rfl (q_sliceH (j := 2) rfl rfl rfl Tryz.underlying30 sz4 rfl (by decide) rfl) ?_
  refine sq rfl rfl hn rfl (zH rfl rfl Tryz.underlying50 rfl sz30) ?_
  refine stepW (s_store1 rfl rfl rfl rfl rfl rfl (id := 7) rfl sz30 (Nat.le_of_ble_eq_true rfl) rfl trivial) fun _ => ?_
  refine zE (zA (zC (zB ?_)))
  refine sq rfl rfl hn rfl (zH rfl rfl Tryz.underlying50 rfl sz3) ?_
  refine stepW (s_store1 rfl rfl rfl rfl rfl rfl (id := 8) rfl sz3 (Nat.le_of_ble_eq_true rfl) rfl trivial) fun _ => ?_
  refine zE (zA (zC (zB ?_)))
  refine sq rfl rfl hn rfl (zg rfl bt90 rfl rfl rfl rfl rfl) ?_
  refine stepW (zP rfl rfl rfl (nb hn rfl) Tryz.underlying42 sz90 zr90 rfl rfl rfl (show _ = [.d (.int .i64 0), .d (.int .i64 0), .d (.int .i64 0)] from by kernel_rfl) (by kernel_rfl) rfl rfl rfl rfl rfl) fun _ => ?_
  refine sq rfl rfl hn rfl (zH rfl rfl Tryz.underlying50 rfl sz44) ?_
  refine sq rfl rfl hn rfl (zH rfl rfl Tryz.underlying44 rfl sz42) ?_
  refine stepW (s_store1 rfl rfl rfl rfl rfl rfl (id := 9) rfl sz42 (Nat.le_of_ble_eq_true rfl) rfl trivial) fun _ => ?_
  refine zE (zA (zC (zB ?_)))
  refine sq rfl rfl hn rfl (zg rfl bt88 rfl rfl rfl rfl rfl) ?_
  refine stepW (zP rfl rfl rfl (nb hn rfl) Tryz.underlying48 sz88 zr88 rfl rfl rfl (show _ = [.d (.int .i64 0), .d (.int .i64 0), .d (.int .i64 0)] from by kernel_rfl) (by kernel_rfl) rfl rfl rfl rfl rfl) fun _ => ?_
  refine sq rfl rfl hn rfl (zH rfl rfl Tryz.underlying50 rfl sz48) ?_
  refine stepW (s_store1 rfl rfl rfl rfl rfl rfl (id := 10) rfl sz48 (Nat.le_of_ble_eq_true rfl) rfl trivial) fun _ => ?_
  refine zE (zA (zC ?_))
  refine zx (gh_veccell (id := 4) (k := 2) (rid := 1103) (ds := (nm4.reg.entries.map entE).flatten) (rest := List.replicate ((cap - 4) * 6) TV.any) (n := 4) (sz := 6) rfl rfl rfl rfl rfl (show _ = nm4.reg.entries.map entE from rfl) hcap hcm) ?_
  refine zx (gh_veccell (id := 5) (k := 6) (rid := 1101) (ds := (nm5.dues.map dueE).flatten) (rest := []) (n := 2) (sz := 3) rfl rfl rfl rfl rfl (show _ = nm5.dues.map dueE from rfl) (Nat.le_refl _) (by decide)) ?_
  refine zx (gh_veccell (id := 6) (k := 6) (rid := 98) (ds := (nm6.dues.map dueE).flatten) (rest := []) (n := 7) (sz := 3) rfl rfl rfl rfl rfl (show _ = nm6.dues.map dueE from rfl) (Nat.le_refl _) (by decide)) ?_
  refine zB ?_
  refine sq rfl rfl hn rfl (zY rfl rfl (id := 4) rfl Tryz.underlying50 rfl sz50 rfl rfl sees0) ?_
  refine stepW (s_call [] (fun _ => (by have h6 := zDf nm4; rw [nm_h4] at h6; exact h6)) rfl (zI rfl) rfl (nb hn rfl) (fun _ => trivial) rfl rfl (by first | exact .refl _ | (repeat (first | exact .refl _ | exact .nil _ | refine .cons ?_ ?_ | refine .agg ?_ | refine .tup ?_)))) fun _ => ?_
  refine sq rfl rfl hn rfl (zG rfl rfl) ?_
  refine sq rfl rfl hn rfl (zT rfl rfl rfl) ?_
  refine sq rfl rfl hn rfl (zT rfl rfl rfl) ?_
  refine sq rfl rfl hn rfl (zF rfl rfl) ?_
  refine sq rfl rfl hn rfl (zF rfl rfl) ?_
  refine zE (zA (zC (zB ?_)))
  refine sq rfl rfl hn rfl (zY rfl rfl (id := 4) rfl Tryz.underlying50 rfl sz50 rfl rfl sees0) ?_
  refine stepW (s_call [] (fun _ => (by have h6 := zAT nm4; rw [nm_v4] at h6; exact h6)) rfl (zI rfl) rfl (nb hn rfl) (fun _ => trivial) rfl rfl (by first | exact .refl _ | (repeat (first | exact .refl _ | exact .nil _ | refine .cons ?_ ?_ | refine .agg ?_ | refine .tup ?_)))) fun _ => ?_
  refine sq rfl rfl hn rfl (zG rfl rfl) ?_
  refine sq rfl rfl hn rfl (zT rfl rfl rfl) ?_
  refine sq rfl rfl hn rfl (zT rfl rfl rfl) ?_
  refine sq rfl rfl hn rfl (zF rfl rfl) ?_
  refine sq rfl rfl hn rfl (zF rfl rfl) ?_
  refine zE (zA (zC (zB ?_)))
  refine sq rfl rfl hn rfl (zY rfl rfl (id := 4) rfl Tryz.underlying50 rfl sz50 rfl rfl sees0) ?_
  refine stepW (s_call [] (fun _ => (by have h6 := zBe nm4; rw [nm_e4] at h6; exact h6)) rfl (zI rfl) rfl (nb hn rfl) (fun _ => trivial) rfl rfl (by first | exact .refl _ | (repeat (first | exact .refl _ | exact .nil _ | refine .cons ?_ ?_ | refine .agg ?_ | refine .tup ?_)))) fun _ => ?_
  refine sq rfl rfl hn rfl (zG rfl rfl) ?_
  refine sq rfl rfl hn rfl (zT rfl rfl rfl) ?_
  refine sq rfl rfl hn rfl (zT rfl rfl rfl) ?_
  refine sq rfl rfl hn rfl (zF rfl rfl) ?_
  refine sq rfl rfl hn rfl (zF rfl rfl) ?_
  refine zE (zA (zC (zB ?_)))
  refine sq rfl rfl hn rfl (zY rfl rfl (id := 10) rfl Tryz.underlying50 rfl sz50 rfl rfl sees0) ?_
  refine stepW (s_call [] (fun _ => (by have h6 := zBe nm10; rw [nm_e10] at h6; exact h6)) rfl (zI rfl) rfl (nb hn rfl) (fun _ => trivial) rfl rfl (.refl _)) fun _ => ?_
  refine sq rfl rfl hn rfl (zG rfl rfl) ?_
  refine sq rfl rfl hn rfl (zT rfl rfl rfl) ?_
  refine sq rfl rfl hn rfl (zT rfl rfl rfl) ?_
  refine sq rfl rfl hn rfl (zF rfl rfl) ?_
  refine sq rfl rfl hn rfl (zF rfl rfl) ?_
  refine zE (zA (zC (zB ?_)))
  refine sq rfl rfl hn rfl (zY rfl rfl (id := 10) rfl Tryz.underlying50 rfl sz50 rfl rfl sees0) ?_
  refine stepW (s_call [] (fun _ => (by have h6 := zAT nm10; rw [nm_v10] at h6; exact h6)) rfl (zI rfl) rfl (nb hn rfl) (fun _ => trivial) rfl rfl (.refl _)) fun _ => ?_
  refine sq rfl rfl hn rfl (zG rfl rfl) ?_
  refine sq rfl rfl hn rfl (zT rfl rfl rfl) ?_
  refine sq rfl rfl hn rfl (zT rfl rfl rfl) ?_
  refine sq rfl rfl hn rfl (zF rfl rfl) ?_
  refine sq rfl rfl hn rfl (zF rfl rfl) ?_
  refine zE (zA (zC (zB ?_)))
  refine sq rfl rfl hn rfl (zG rfl rfl) ?_
  refine sq rfl rfl hn rfl (yG rfl rfl rfl) ?_
  refine sq rfl rfl hn rfl (zG rfl rfl) ?_
  refine stepG [] (zD rfl rfl rfl) rfl (nb hn rfl) (fun hc => trivial) (fun hc => zG rfl rfl) ?_
  refine stepG [(140, _)] (zD rfl rfl rfl) rfl (nb hn rfl) (fun hc => ⟨⟨_, rfl, hc⟩, trivial⟩) (fun hc => yG rfl rfl rfl) ?_
  refine sq rfl rfl hn rfl (zy rfl rfl rfl (by intro hB; first | (rw [hB]; rfl) | (rw [hB, hc]; rfl) | simp_all)) ?_
  refine sq rfl rfl hn rfl (zG rfl rfl) ?_
  refine stepG [] (zD rfl rfl rfl) rfl (nb hn rfl) (fun hc => trivial) (fun hc => zG rfl rfl) ?_
  refine stepG [(144, _)] (zD rfl rfl rfl) rfl (nb hn rfl) (fun hc => ⟨⟨_, rfl, hc⟩, trivial⟩) (fun hc => yG rfl rfl rfl) ?_
  refine sq rfl rfl hn rfl (zy rfl rfl rfl (by intro hB; first | (rw [hB]; rfl) | (rw [hB, hc]; rfl) | simp_all)) ?_
  refine sq rfl rfl hn rfl (zG rfl rfl) ?_
  refine stepG [] (zD rfl rfl rfl) rfl (nb hn rfl) (fun hc => trivial) (fun hc => zG rfl rfl) ?_
  refine stepG [(148, _)] (zD rfl rfl rfl) rfl (nb hn rfl) (fun hc => ⟨⟨_, rfl, hc⟩, trivial⟩) (fun hc => yG rfl rfl rfl) ?_
  refine sq rfl rfl hn rfl (zy rfl rfl rfl (by intro hB; first | (rw [hB]; rfl) | (rw [hB, hc]; rfl) | simp_all)) ?_
  refine sq rfl rfl hn rfl (zG rfl rfl) ?_
  refine stepG [] (zD rfl rfl rfl) rfl (nb hn rfl) (fun hc => trivial) (fun hc => zG rfl rfl) ?_
  refine stepG [(152, _)] (zD rfl rfl rfl) rfl (nb hn rfl) (fun hc => ⟨⟨_, rfl, hc⟩, trivial⟩) (fun hc => yG rfl rfl rfl) ?_
  refine sq rfl rfl hn rfl (zy rfl rfl rfl (by intro hB; first | (rw [hB]; rfl) | (rw [hB, hc]; rfl) | simp_all)) ?_
  refine sq rfl rfl hn rfl (zG rfl rfl) ?_
  refine stepG [] (zD rfl rfl rfl) rfl (nb hn rfl) (fun hc => trivial) (fun hc => zG rfl rfl) ?_
  refine stepG [(156, _)] (zD rfl rfl rfl) rfl (nb hn rfl) (fun hc => ⟨⟨_, rfl, hc⟩, trivial⟩) (fun hc => yG rfl rfl rfl) ?_
  refine sq rfl rfl hn rfl (zy rfl rfl rfl (by intro hB; first | (rw [hB]; rfl) | (rw [hB, hc]; rfl) | simp_all)) ?_
  refine sq rfl rfl hn rfl (zG rfl rfl) ?_
  refine stepG [] (zD rfl rfl rfl) rfl (nb hn rfl) (fun hc => trivial) (fun hc => zG rfl rfl) ?_
  refine stepW (yL (zD rfl rfl rfl) rfl (nb hn rfl) (zP rfl rfl rfl (nb hn rfl) Tryz.underlying22 sz3 zr3 rfl rfl rfl (show _ = [.d (.int .i64 0)] from by kernel_rfl) (by kernel_rfl) rfl rfl rfl rfl rfl)) fun _ => ?_
  refine stepW (s_call [(160, _), (161, _)] (fun hc => kA [2] [2]) rfl (zD rfl rfl rfl) rfl (nb hn rfl) (fun hc => ⟨⟨_, rfl, hc⟩, ⟨_, rfl, hc⟩, trivial⟩) rfl rfl (.refl _)) fun _ => ?_
  refine sq rfl rfl hn rfl (zy rfl rfl rfl (by intro hB; first | (rw [hB]; rfl) | (rw [hB, hc]; rfl) | simp_all)) ?_
  refine sq rfl rfl hn rfl (zG rfl rfl) ?_
  refine stepG [] (zD rfl rfl rfl) rfl (nb hn rfl) (fun hc => trivial) (fun hc => zY rfl rfl (id := 5) rfl Tryz.underlying50 rfl sz50 rfl rfl sees0) ?_
  refine stepW (s_call [(165, _)] (fun hc => (by have h6 := yI nm5; rw [nm_c5] at h6; exact h6)) rfl (zD rfl rfl rfl) rfl (nb hn rfl) (fun hc => ⟨⟨_, rfl, hc⟩, trivial⟩) rfl rfl (by first | exact .refl _ | (repeat (first | exact .refl _ | exact .nil _ | refine .cons ?_ ?_ | refine .agg ?_ | refine .tup ?_)))) fun _ => ?_
  refine stepG [(166, _)] (zD rfl rfl rfl) rfl (nb hn rfl) (fun hc => ⟨⟨_, rfl, hc⟩, trivial⟩) (fun hc => yG rfl rfl rfl) ?_
  refine sq rfl rfl hn rfl (zy rfl rfl rfl (by intro hB; first | (rw [hB]; rfl) | (rw [hB, hc]; rfl) | simp_all)) ?_
  refine sq rfl rfl hn rfl (zG rfl rfl) ?_
  refine stepG [] (zD rfl rfl rfl) rfl (nb hn rfl) (fun hc => trivial) (fun hc => zY rfl rfl (id := 6) rfl Tryz.underlying50 rfl sz50 rfl rfl sees0) ?_
  refine stepW (s_call [(170, _)] (fun hc => (by have h6 := yI nm6; rw [nm_c6] at h6; exact h6)) rfl (zD rfl rfl rfl) rfl (nb hn rfl) (fun hc => ⟨⟨_, rfl, hc⟩, trivial⟩) rfl rfl (by first | exact .refl _ | (repeat (first | exact .refl _ | exact .nil _ | refine .cons ?_ ?_ | refine .agg ?_ | refine .tup ?_)))) fun _ => ?_
  refine stepG [(171, _)] (zD rfl rfl rfl) rfl (nb hn rfl) (fun hc => ⟨⟨_, rfl, hc⟩, trivial⟩) (fun hc => yG rfl rfl rfl) ?_
  refine sq rfl rfl hn rfl (zy rfl rfl rfl (by intro hB; first | (rw [hB]; rfl) | (rw [hB, hc]; rfl) | simp_all)) ?_
  refine sq rfl rfl hn rfl (zG rfl rfl) ?_
  refine stepG [] (zD rfl rfl rfl) rfl (nb hn rfl) (fun hc => trivial) (fun hc => zY rfl rfl (id := 7) rfl Tryz.underlying50 rfl sz50 rfl rfl sees0) ?_
  refine stepW (s_call [(175, _)] (fun hc => (by have h6 := yI nm7; rw [nm_c7] at h6; exact h6)) rfl (zD rfl rfl rfl) rfl (nb hn rfl) (fun hc => ⟨⟨_, rfl, hc⟩, trivial⟩) rfl rfl (.refl _)) fun _ => ?_
  refine stepG [(176, _)] (zD rfl rfl rfl) rfl (nb hn rfl) (fun hc => ⟨⟨_, rfl, hc⟩, trivial⟩) (fun hc => yG rfl rfl rfl) ?_
  refine sq rfl rfl hn rfl (zy rfl rfl rfl (by intro hB; first | (rw [hB]; rfl) | (rw [hB, hc]; rfl) | simp_all)) ?_
  refine sq rfl rfl hn rfl (zG rfl rfl) ?_
  refine stepG [] (zD rfl rfl rfl) rfl (nb hn rfl) (fun hc => trivial) (fun hc => zY rfl rfl (id := 8) rfl Tryz.underlying50 rfl sz50 rfl rfl sees0) ?_
  refine stepW (s_call [(180, _)] (fun hc => (by have h6 := yI nm8; rw [nm_c8] at h6; exact h6)) rfl (zD rfl rfl rfl) rfl (nb hn rfl) (fun hc => ⟨⟨_, rfl, hc⟩, trivial⟩) rfl rfl (.refl _)) fun _ => ?_
  refine stepG [(181, _)] (zD rfl rfl rfl) rfl (nb hn rfl) (fun hc => ⟨⟨_, rfl, hc⟩, trivial⟩) (fun hc => yG rfl rfl rfl) ?_
  refine sq rfl rfl hn rfl (zy rfl rfl rfl (by intro hB; first | (rw [hB]; rfl) | (rw [hB, hc]; rfl) | simp_all)) ?_
  refine sq rfl rfl hn rfl (zG rfl rfl) ?_
  refine stepG [] (zD rfl rfl rfl) rfl (nb hn rfl) (fun hc => trivial) (fun hc => zY rfl rfl (id := 9) rfl Tryz.underlying50 rfl sz50 rfl rfl sees0) ?_
  refine stepW (s_call [(185, _)] (fun hc => (by have h6 := yI nm9; rw [nm_c9] at h6; exact h6)) rfl (zD rfl rfl rfl) rfl (nb hn rfl) (fun hc => ⟨⟨_, rfl, hc⟩, trivial⟩) rfl rfl (.refl _)) fun _ => ?_
  refine stepG [(186, _)] (zD rfl rfl rfl) rfl (nb hn rfl) (fun hc => ⟨⟨_, rfl, hc⟩, trivial⟩) (fun hc => yG rfl rfl rfl) ?_
  refine sq rfl rfl hn rfl (zy rfl rfl rfl (by intro hB; first | (rw [hB]; rfl) | (rw [hB, hc]; rfl) | simp_all)) ?_
  refine sq rfl rfl hn rfl (zG rfl rfl) ?_
  refine stepG [] (zD rfl rfl rfl) rfl (nb hn rfl) (fun hc => trivial) (fun hc => zg rfl bt50 rfl rfl rfl rfl rfl) ?_
  refine stepW (s_call [(190, _)] (fun hc => (by have h6 := yI nm0; rw [nm_c0] at h6; exact h6)) rfl (zD rfl rfl rfl) rfl (nb hn rfl) (fun hc => ⟨⟨_, rfl, hc⟩, trivial⟩) rfl rfl (by first | exact .refl _ | (repeat (first | exact .refl _ | exact .nil _ | refine .cons ?_ ?_ | refine .agg ?_ | refine .tup ?_)))) fun _ => ?_
  refine stepG [(191, _)] (zD rfl rfl rfl) rfl (nb hn rfl) (fun hc => ⟨⟨_, rfl, hc⟩, trivial⟩) (fun hc => yG rfl rfl rfl) ?_
  refine sq rfl rfl hn rfl (zy rfl rfl rfl (by intro hB; first | (rw [hB]; rfl) | (rw [hB, hc]; rfl) | simp_all)) ?_
  refine sq rfl rfl hn rfl (zG rfl rfl) ?_
  refine stepW (s_call [] (fun hc => awake_ok) rfl (zD rfl rfl rfl) rfl (nb hn rfl) (fun hc => trivial) rfl rfl (.refl _)) fun _ => ?_
  refine sq rfl rfl hn rfl (zy rfl rfl rfl (by intro hB; first | (rw [hB]; rfl) | (rw [hB, hc]; rfl) | simp_all)) ?_
  refine sq rfl rfl hn rfl (zF rfl rfl) ?_
  refine zE (zA (zO ?_))
  exact ret_E (.inl rfl) () ((yB rfl (.tmp rfl)).eq (by rfl)) trivial
theorem ShortNames_ok : PureAt Tryz.prog 13 [] (.bool true) := PureAt.of_eff (ds := []) ShortNames_eff
end Go.Proofs.YtaokpncjemkhcaaGreat
namespace Go.Proofs.YtaokpncjemkhcaaGreat
open Go.ChangeShapes Go.WideShapes Go.ChangeAt Go.RowKit
set_option linter.all false
theorem ShortNames_pure (xs : List D) (h : Sat [] xs) : PureAt Tryz.prog 13 xs (.bool true) := by
  obtain rfl := h
  exact ShortNames_ok
set_option maxRecDepth 100000 in
theorem shortNames_lifted (os : Os) (started : os.Started) (H : Type) (enc : TypeId × Value → H) :
    ReturnsInHanded {} Tryz.checked os 13 .any (Rows.shortNamesSpec.pre6 enc Tryz.prog Tryz.f13 Rows.shortNamesRow.domain false) (Rows.shortNamesSpec.post enc Tryz.prog Tryz.f13 false true false false) := by
  refine returnsInHanded_of_change_sized (C := Tryz.checked) own started (by kernel_rfl) Tryz.func13
    (ChangeSpec.witness6 (enc := enc) (C := Tryz.checked) false ⟨#[], #[], []⟩ 8 (by kernel_rfl) (by kernel_rfl) (by kernel_rfl) (by kernel_rfl)) ?_
  intro W base args ds gs before hval hW _ hz _
  exact law_contract (ts := []) (Ss := []) laidOut (by rw [Tryz.params13]) (by kernel_rfl) (by kernel_rfl) Tryz.underlying4 rfl rfl
    (fun ds h => by match ds, h with | [], _ => rfl) trivial ShortNames_pure W base args ds gs before hval hW hz (fun g hg => by cases hg)
theorem shortNames_holds : Rows.ShortNamesSaid :=
  OpenClaim.holds_of_wide 13 Tryz.f13 rfl rfl rfl rfl rfl rfl rfl ⟨rfl, rfl, rfl, rfl, rfl⟩ rfl rfl rfl rfl rfl (by kernel_rfl) Tryz.func13 (by kernel_rfl)
    (of_decide_eq_true (by kernel_rfl)) (by unfold Func.isWrapper; first | (rw [if_pos (by decide +kernel)]; kernel_rfl) | (rw [if_neg (by decide +kernel)]; exact ⟨rfl, rfl⟩))
    (fun os started H enc _ => shortNames_lifted os started H enc)
end Go.Proofs.YtaokpncjemkhcaaGreat
