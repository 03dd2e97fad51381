/-
  The law TopHanded returns true for every input, and leaves its arguments as they were: the given statement, whole. No condition.
-/
import Derived.WalkKit
import Derived.Deep.RegionWith
import Derived.Laws.StructEq
import Derived.Test.YtaokpncjemkhcaaGreatTopHandedM
namespace Go.Proofs
open Go.Shelf Go.RowKit Go.Lib Go.Sort
set_option linter.all false
abbrev T4 := Int × Int × Int × Int
def Tryz.encH (x : T4) : List Value := [.int .i64 x.1, .int .i64 x.2.1, .int .i64 x.2.2.1, .int .i64 x.2.2.2]
def Tryz.cmpH (x y : T4) : Int :=
  if Lib.compareInt x.1 y.1 ≠ 0 then Lib.compareInt x.1 y.1 else if Lib.compareInt x.2.1 y.2.1 ≠ 0 then Lib.compareInt x.2.1 y.2.1 else
  if Lib.compareInt x.2.2.1 y.2.2.1 ≠ 0 then Lib.compareInt x.2.2.1 y.2.2.1 else Lib.compareInt x.2.2.2 y.2.2.2
set_option maxHeartbeats 4000000 in
theorem Tryz.compare124 (b1 b2 : Nat) (x y : T4) (W : World)
    (h0 : W.cell? ⟨b1, 0, none⟩ = some (.int .i64 x.1)) (h1 : W.cell? ⟨b1, 1, none⟩ = some (.int .i64 x.2.1)) (h2 : W.cell? ⟨b1, 2, none⟩ = some (.int .i64 x.2.2.1)) (h3 : W.cell? ⟨b1, 3, none⟩ = some (.int .i64 x.2.2.2))
    (g0 : W.cell? ⟨b2, 0, none⟩ = some (.int .i64 y.1)) (g1 : W.cell? ⟨b2, 1, none⟩ = some (.int .i64 y.2.1)) (g2 : W.cell? ⟨b2, 2, none⟩ = some (.int .i64 y.2.2.1)) (g3 : W.cell? ⟨b2, 3, none⟩ = some (.int .i64 y.2.2.2)) :
    Calls Tryz.prog 124 #[.slice (some ⟨b1, 0, none⟩) 4 4, .slice (some ⟨b2, 0, none⟩) 4 4] W fun e w' => e = .returned (.int .i64 (Tryz.cmpH x y)) ∧ ∃ q, w' = W.drewN q := by
  have hcon := fun a b W' => Tryz.cmp_Compare_int a b W'
  obtain ⟨x0, x1, x2, x3⟩ := x
  obtain ⟨y0, y1, y2, y3⟩ := y
  simp only at h0 h1 h2 h3 g0 g1 g2 g3 ⊢
  generalize hR : Tryz.cmpH (x0, x1, x2, x3) (y0, y1, y2, y3) = R
  go_enter Tryz.func124, Tryz.ntmps124
  go_wp2
  refine wp_loop_rounds 5 ?_
  rw [rounds_succ]
  go_wp2_with (go_at_call 145; refine (hcon _ _ _).mono ?_; rintro e w' ⟨rfl, rfl⟩)
  · go_ret
    exact ⟨by rw [← hR]; simp_all [Tryz.cmpH], 0, rfl⟩
  · skip
    rw [rounds_succ]
    go_wp2_with (go_at_call 145; refine (hcon _ _ _).mono ?_; rintro e w' ⟨rfl, rfl⟩)
    · go_ret
      exact ⟨by rw [← hR]; simp_all [Tryz.cmpH], 0, rfl⟩
    · skip
      rw [rounds_succ]
      go_wp2_with (go_at_call 145; refine (hcon _ _ _).mono ?_; rintro e w' ⟨rfl, rfl⟩)
      · go_ret
        exact ⟨by rw [← hR]; simp_all [Tryz.cmpH], 0, rfl⟩
      · skip
        rw [rounds_succ]
        go_wp2_with (go_at_call 145; refine (hcon _ _ _).mono ?_; rintro e w' ⟨rfl, rfl⟩)
        · go_ret
          exact ⟨by rw [← hR]; simp_all [Tryz.cmpH], 0, rfl⟩
        · skip
          rw [rounds_succ]
          go_wp2
          go_ret
          exact ⟨by rw [← hR]; simp_all [Tryz.cmpH], 0, rfl⟩
set_option maxHeartbeats 4000000 in
theorem Tryz.closure123 (x y : T4) (W : World) : Calls Tryz.prog 123 #[.agg #[.int .i64 x.1, .int .i64 x.2.1, .int .i64 x.2.2.1, .int .i64 x.2.2.2], .agg #[.int .i64 y.1, .int .i64 y.2.1, .int .i64 y.2.2.1, .int .i64 y.2.2.2]] W fun e w' =>
    e = .returned (.int .i64 (Tryz.cmpH x y)) ∧ ∃ q os', w' = grow (W.drewN q) os' := by
  have hcon := fun b1 b2 W' => Tryz.compare124 b1 b2 x y W'
  generalize hR : Tryz.cmpH x y = R at hcon ⊢
  go_enter Tryz.func123, Tryz.ntmps123
  go_wp2
  go_region_with (go_at_call 124; refine (hcon _ _ _ (by simp [go_sem]) (by simp [go_sem]) (by simp [go_sem]) (by simp [go_sem]) (by simp [go_sem]) (by simp [go_sem]) (by simp [go_sem]) (by simp [go_sem])).mono ?_; rintro e w' ⟨rfl, q, rfl⟩)
  go_wp2
  go_ret
  exact ⟨rfl, 1 + q, _, by rw [alloc_eq_grow, alloc_eq_grow, grow_grow]; simp [grow, World.drewN, World.drew, Nat.add_assoc]; rfl⟩
end Go.Proofs
namespace Go.Proofs.YtaokpncjemkhcaaGreat
open Go.RowKit Go.Sort Go.Lib Go.Proofs
set_option linter.all false
theorem zDM (a b : Int) : (a < b ∧ Lib.compareInt a b = -1) ∨ (a = b ∧ Lib.compareInt a b = 0) ∨ (b < a ∧ Lib.compareInt a b = 1) := by
  unfold Lib.compareInt
  rcases Int.lt_trichotomy a b with h | h | h
  · left; exact ⟨h, by simp [h]⟩
  · right; left; subst h; exact ⟨rfl, by simp⟩
  · right; right
    have : ¬ a < b := by omega
    exact ⟨h, by simp [h, this]⟩
theorem ltH (x y : T4) : ltOf Tryz.cmpH x y = decide (x.1 < y.1 ∨ (x.1 = y.1 ∧ (x.2.1 < y.2.1 ∨ (x.2.1 = y.2.1 ∧ (x.2.2.1 < y.2.2.1 ∨ (x.2.2.1 = y.2.2.1 ∧ x.2.2.2 < y.2.2.2)))))) := by
  unfold ltOf Tryz.cmpH
  rw [Bool.eq_iff_iff, decide_eq_true_eq, decide_eq_true_eq]
  rcases zDM x.1 y.1 with ⟨h, e⟩ | ⟨h, e⟩ | ⟨h, e⟩
  · rw [e, if_pos (by decide)]; omega
  · rw [e, if_neg (by decide)]
    rcases zDM x.2.1 y.2.1 with ⟨h2, e⟩ | ⟨h2, e⟩ | ⟨h2, e⟩
    · rw [e, if_pos (by decide)]; omega
    · rw [e, if_neg (by decide)]
      rcases zDM x.2.2.1 y.2.2.1 with ⟨h3, e⟩ | ⟨h3, e⟩ | ⟨h3, e⟩
      · rw [e, if_pos (by decide)]; omega
      · rw [e, if_neg (by decide)]
        rcases zDM x.2.2.2 y.2.2.2 with ⟨h4, e⟩ | ⟨h4, e⟩ | ⟨h4, e⟩ <;> rw [e] <;> omega
      · rw [e, if_pos (by decide)]; omega
    · rw [e, if_pos (by decide)]; omega
  · rw [e, if_pos (by decide)]; omega
theorem swoH : SWO (ltOf Tryz.cmpH) where
  irrefl x := by rw [ltH]; simp
  trans x y z h1 h2 := by rw [ltH, decide_eq_true_eq] at *; omega
  ntrans x y z h1 h2 := by rw [ltH, decide_eq_false_iff_not] at *; omega
theorem totH (x y : T4) (h1 : ltOf Tryz.cmpH x y = false) (h2 : ltOf Tryz.cmpH y x = false) : x = y := by
  rw [ltH, decide_eq_false_iff_not] at *
  obtain ⟨a, b, c, d⟩ := x
  obtain ⟨a', b', c', d'⟩ := y
  simp only at h1 h2
  simp only [Prod.mk.injEq]
  omega
theorem cmpLaysH (blk off size : Nat) (w : World) : CmpLays Tryz.prog 123 #[] Tryz.encH 4 Tryz.cmpH blk off size w := fun _ _ _ _ x y => Tryz.closure123 x y _
def flat4 (ts : List T4) : List Int := ts.flatMap fun x => [x.1, x.2.1, x.2.2.1, x.2.2.2]
theorem yR (ts : List T4) : (flat4 ts).length = ts.length * 4 := by
  induction ts with
  | nil => rfl
  | cons x ts ih => simp only [flat4, List.flatMap_cons, List.length_append, List.length_cons, List.length_nil] at ih ⊢; omega
theorem zCt : ∀ (ts : List T4) (i : Nat), i < ts.length * 4 → (flat4 ts)[i]? = (([(ts.getD (i / 4) (0, 0, 0, 0)).1, (ts.getD (i / 4) (0, 0, 0, 0)).2.1, (ts.getD (i / 4) (0, 0, 0, 0)).2.2.1, (ts.getD (i / 4) (0, 0, 0, 0)).2.2.2] : List Int))[i % 4]?
  | [], i, h => by simp at h
  | x :: ts, i, h => by
    show ([x.1, x.2.1, x.2.2.1, x.2.2.2] ++ flat4 ts)[i]? = _
    by_cases hi : i < 4
    · rw [List.getElem?_append_left (by simpa using hi), Nat.div_eq_of_lt hi, Nat.mod_eq_of_lt hi]; rfl
    · obtain ⟨j, rfl⟩ : ∃ j, i = j + 4 := ⟨i - 4, by omega⟩
      rw [List.getElem?_append_right (by simp), show j + 4 - [x.1, x.2.1, x.2.2.1, x.2.2.2].length = j from by simp, zCt ts j (by simp only [List.length_cons] at h; omega)]
      rw [show (j + 4) / 4 = j / 4 + 1 by omega, show (j + 4) % 4 = j % 4 by omega]
      rfl
theorem zCN (ts : List T4) : flatK Tryz.encH 4 ts.toArray = ((flat4 ts).map (Value.int .i64)).toArray := by
  apply Array.ext
  · simp [yR]
  · intro i h1 h2
    have hi : i < ts.length * 4 := by simpa using h1
    have := get_flatK Tryz.encH 4 ts.toArray i (by simpa using hi)
    rw [getElem!_pos _ i h1] at this
    rw [this]
    have hg := zCt ts i hi
    have hd : ts.toArray[i / 4]! = ts.getD (i / 4) (0, 0, 0, 0) := by
      have hlt : i / 4 < ts.length := by omega
      rw [getElem!_pos _ _ (by simpa using hlt), List.getD_eq_getElem?_getD, List.getElem?_eq_getElem hlt]; simp
    rw [hd]
    simp only [List.getElem_toArray, List.getElem_map]
    rw [List.getElem?_eq_getElem (by rw [yR]; exact hi)] at hg
    have h4 : i % 4 < 4 := Nat.mod_lt _ (by decide)
    generalize i % 4 = m at hg h4 ⊢
    generalize ts.getD (i / 4) (0, 0, 0, 0) = t at hg ⊢
    have hm : m = 0 ∨ m = 1 ∨ m = 2 ∨ m = 3 := by omega
    rcases hm with rfl | rfl | rfl | rfl <;> (simp only [List.getElem?_cons_zero, List.getElem?_cons_succ, Option.some.injEq] at hg; rw [hg]; rfl)
theorem putRow_id (w : World) (b : Nat) (l : List Int) : putRow id w b 0 (l.map (Value.int .i64)).toArray = putRow (Value.int .i64) w b 0 l.toArray := by
  unfold putRow
  congr 1
  funext c
  apply Array.ext
  · simp [putCells]
  · intro i h1 h2
    simp only [putCells, Array.getElem_mapIdx]
    by_cases hi : i < l.length
    · rw [if_pos (by simp; omega), if_pos (by simp; omega)]
      simp only [Nat.sub_zero, id]
      rw [getElem!_pos _ i (by simpa using hi), getElem!_pos _ i (by simpa using hi)]; simp
    · rw [if_neg (by simp; omega), if_neg (by simp; omega)]
theorem holds_id {w : World} {b : Nat} {l : List Int} (h : Holds (Value.int .i64) w b 0 l.toArray) : Holds id w b 0 (l.map (Value.int .i64)).toArray := fun j hj => by
  have hj' : j < l.length := by simpa using hj
  obtain ⟨h1, h2⟩ := h j (by simpa using hj')
  refine ⟨?_, h2⟩
  rw [h1, getElem!_pos _ j (by simpa using hj'), getElem!_pos _ j (by simpa using hj')]; simp
@[reducible] def t4T (ts : List T4) : List TV := (flat4 ts).map fun n => TV.d (.int .i64 n)
theorem eff_putRowH {P : Program} {f g : FuncId} {b cap m : Nat} {l l' : List Int} {rest : List TV} {ty : TypeId} (he : Ent P f) (hl : l'.length = l.length)
    (hc : ∀ w, Holds (Value.int .i64) w b 0 l.toArray → b < w.heap.size → Calls P f #[.slice (some ⟨b, 0, none⟩) m cap, .func (.func g) #[] #[]] w fun e w' => e = .returned (.tuple #[]) ∧ ∃ n os, w' = Go.Sort.grow (putRow (Value.int .i64) (Go.Sort.ahead w n) b 0 l'.toArray) os) :
    EffAt P f [.val (.slice (some ⟨b, 0, none⟩) m cap), .d (.fn (.func g) [] [])] [(1041, .box b ty (l.map (fun n => TV.d (.int .i64 n)) ++ rest))] (X := Unit) (fun _ => .d (.tup [])) (fun _ => [(1041, .box b ty (l'.map (fun n => TV.d (.int .i64 n)) ++ rest))]) := by
  refine ⟨he, fun w F vs hr hh => ?_⟩
  obtain ⟨u, us, rfl, hu, u2, us2, rfl, hf, hus⟩ := hr
  cases hus
  simp only [TRep] at hu
  subst hu
  obtain ⟨vf, vc, rfl, hvf, hvc⟩ := hf
  cases hvf
  cases hvc
  obtain ⟨hown, hF, cs, hb, hcs, hone⟩ := hh.res 1041 _ (zY _ _ _)
  obtain ⟨xs, ys, rfl, hxs, hys⟩ := hcs.puts
  obtain rfl := kG.1 hxs
  have hlt := yT hb
  have hH : Holds (Value.int .i64) w b 0 l.toArray := fun j hj => by
    have hj' : j < l.length := by simpa using hj
    rw [Nat.zero_add]
    constructor
    · rw [yY hb, List.getElem?_append_left (by simpa using hj')]
      simp [hj']
    · simp [World.frozen?, hb]
  refine (hc w hH hlt).mono fun e w' hw => ?_
  obtain ⟨rfl, n, os, rfl⟩ := hw
  have hblk : ∀ k, k < w.heap.size → k ≠ b → (Go.Sort.grow (putRow (Value.int .i64) (Go.Sort.ahead w n) b 0 l'.toArray) os).heap[k]? = w.heap[k]? := fun k hk hkb => by
    simp only [Go.Sort.grow, putRow, mapBlock, Go.Sort.ahead]
    rw [Array.getElem?_append_left (by simpa using hk), Array.getElem?_modify, if_neg (Ne.symm hkb)]
  have hbb : (Go.Sort.grow (putRow (Value.int .i64) (Go.Sort.ahead w n) b 0 l'.toArray) os).heap[b]? = some (.cells (l'.map (Value.int .i64) ++ ys).toArray ty (0, 0)) := by
    simp only [Go.Sort.grow, putRow, mapBlock, Go.Sort.ahead]
    rw [Array.getElem?_append_left (by simpa using hlt), Array.getElem?_modify, if_pos rfl, hb]
    simp only [Option.map_some, onCells, Option.some.injEq, Obj.cells.injEq, and_self, and_true]
    apply Array.ext'
    rw [zDs l l' ys hl]
  have hcell : ∀ c o, F c o → (Go.Sort.grow (putRow (Value.int .i64) (Go.Sort.ahead w n) b 0 l'.toArray) os).cell? ⟨c, o, none⟩ = w.cell? ⟨c, o, none⟩ := fun c o hf => by
    have hcb : c ≠ b := fun e => by subst e; exact hF o hf
    obtain ⟨u, hu⟩ := hh.fcell c o hf
    have := hblk c (World.block_lt_of_cell? w ⟨c, o, none⟩ hu) hcb
    simp [World.cell?, this]
  have hsz : w.heap.size ≤ (Go.Sort.grow (putRow (Value.int .i64) (Go.Sort.ahead w n) b 0 l'.toArray) os).heap.size := by simp [Go.Sort.grow, putRow, mapBlock, Go.Sort.ahead]
  refine ⟨(), _, F, rfl, ⟨[], rfl, rfl⟩, {
    os := rfl
    tape := rfl
    output := rfl
    hsize := hsz
    old := fun k hk hkl => hblk k hk (fun e => hkl ⟨1041, _, zY _ _ _, e.symm⟩)
    fcell := fun c o hf => by obtain ⟨u, hu⟩ := hh.fcell c o hf; exact ⟨u, (hcell c o hf).trans hu⟩
    glob := hh.glob
    keep := hcell
    f0 := fun _ _ h => h
    fnew := fun _ _ h _ _ => h
    res := fun i r hr => ?_
    sep := fun i i' r r' c k1 k2 _ _ => ?_ }⟩
  · rw [kW] at hr
    split at hr
    · cases hr
      refine ⟨.inr ⟨1041, _, zY _ _ _, rfl⟩, hF, _, hbb, ?_, ?_⟩
      · exact (kG.2 rfl).append (hys.ext' fun c o hf => ⟨hf, hcell c o hf⟩)
      · intro u hu
        rcases List.mem_append.1 hu with hu | hu
        · obtain ⟨m, _, rfl⟩ := List.mem_map.1 hu; rfl
        · exact hone u (by simp [hu])
    · simp [lk] at hr
  · rw [kW] at k1 k2
    split at k1 <;> split at k2
    · omega
    · simp [lk] at k2
    · simp [lk] at k1
    · simp [lk] at k1
def sort4 (ts : List T4) : List T4 := ts.mergeSort fun x y => !(ltOf Tryz.cmpH y x)
theorem sortH_eff {b cap n : Nat} (ts : List T4) (rest : List TV) (hn : n = ts.length) (hts : ts.length < 4611686018427387904) :
    EffAt Tryz.prog 122 [.val (.slice (some ⟨b, 0, none⟩) n cap), .d (.fn (.func 123) [] [])] [(1041, .box b 121 (t4T ts ++ rest))] (X := Unit) (fun _ => .d (.tup [])) (fun _ => [(1041, .box b 121 (t4T (sort4 ts) ++ rest))]) := by
  subst hn
  refine eff_putRowH (kZ (fn := Tryz.f122) (by kernel_rfl) rfl rfl) (by rw [yR, yR, sort4, List.length_mergeSort]) fun w hH hlt => ?_
  have eg : ∀ args w, (callFunc 123 args).run Tryz.prog w = .ok (.enter 123 args) w := enters_of Tryz.func123 (by kernel_rfl) rfl
  have hK : HoldsK Tryz.encH 4 w b 0 ts.toArray := by unfold HoldsK; rw [zCN]; exact holds_id hH
  have hS := AnyQ.slices_SortFunc_total Tryz.sortH 4 Tryz.isAgg121 Tryz.sizeOf121 Tryz.encH (fun _ => rfl) (fun x v hv => by simp [Tryz.encH] at hv; rcases hv with rfl | rfl | rfl | rfl <;> rfl) Tryz.cmpH swoH 123 #[] b 0 cap ts.toArray w eg (cmpLaysH b 0 ts.toArray.size w) hK hlt (by simpa using hts) totH
  change Calls Tryz.prog 122 _ _ _ at hS
  rw [show ts.toArray.size = ts.length from by simp] at hS
  refine hS.mono fun e w' ⟨he, q, os, hw⟩ => ⟨he, q, os, ?_⟩
  rw [hw]
  unfold sortWorldK putRowK
  rw [zCN, putRow_id]
  rfl
theorem sortV_eff {v : Value} {ts : List T4} (hV : VecV v 4 (t4T ts)) (hts : ts.length < 4611686018427387904) :
    EffAt Tryz.prog 122 [.val v, .d (.fn (.func 123) [] [])] [(1041, vecRes 121 v 4 (t4T ts))] (X := Unit) (fun _ => .d (.tup [])) (fun _ => [(1041, vecRes 121 v 4 (t4T (sort4 ts)))]) := by
  rcases hV with ⟨rfl, h0⟩ | ⟨b, n, cap, rfl, h1, h2, h3⟩
  · have ht : ts = [] := by
      have := yR ts
      rw [List.map_eq_nil_iff] at h0
      rw [h0] at this
      exact List.eq_nil_of_length_eq_zero (by simp at this; omega)
    subst ht
    refine ⟨kZ (fn := Tryz.f122) (by kernel_rfl) rfl rfl, fun w F vs hr hh => ?_⟩
    obtain ⟨u, us, rfl, hu, u2, us2, rfl, hf, hus⟩ := hr
    cases hus
    simp only [TRep] at hu
    subst hu
    obtain ⟨vf, vc, rfl, hvf, hvc⟩ := hf
    cases hvf
    cases hvc
    have hS := AnyF.slices_SortFunc_none (P := Tryz.prog) (ρ := Tryz.sortH_ren) { Tryz.sortH with } none 0 (.func (.func 123) #[] #[]) w
    change Calls Tryz.prog 122 _ _ _ at hS
    refine hS.mono fun e w' ⟨he, hw⟩ => ?_
    subst hw
    exact ⟨(), _, F, he, ⟨[], rfl, rfl⟩, hh⟩
  · have hn : n = ts.length := by rw [List.length_map, yR] at h3; omega
    have hlen : (t4T (sort4 ts)).length = (t4T ts).length := by rw [List.length_map, List.length_map, yR, yR, sort4, List.length_mergeSort]
    exact sortH_eff ts _ hn hts
end Go.Proofs.YtaokpncjemkhcaaGreat
namespace Go.Proofs.YtaokpncjemkhcaaGreat
open Go.RowKit Go.Sort Go.Proofs
set_option linter.all false
def tup4 (h : List Int) : T4 := (h.getD 0 0, h.getD 1 0, h.getD 2 0, h.getD 3 0)
def untup (N : Nat) (t : T4) : List Int := [t.1, t.2.1, t.2.2.1, t.2.2.2].take N
theorem zBZ (h : List Int) : hand4 h = [(tup4 h).1, (tup4 h).2.1, (tup4 h).2.2.1, (tup4 h).2.2.2] := rfl
theorem zBb {h : List Int} (hN : h.length ≤ 4) : hand4 h = h ++ List.replicate (4 - h.length) 0 := by
  match h, hN with
  | [], _ => rfl
  | [_], _ => rfl
  | [_, _], _ => rfl
  | [_, _, _], _ => rfl
  | [_, _, _, _], _ => rfl
  | _ :: _ :: _ :: _ :: _ :: _, h => simp at h
theorem zBj {h : List Int} (hN : h.length ≤ 4) : untup h.length (tup4 h) = h := by
  unfold untup
  rw [← zBZ, zBb hN, List.take_left]
theorem zEM {z : List Int} : ∀ {a b : List Int}, a.length = b.length → lexB (a ++ z) (b ++ z) = lexB a b
  | [], [], _ => by simp only [List.nil_append]; rw [zA4]; rfl
  | [], _ :: _, h => by cases h
  | _ :: _, [], h => by cases h
  | x :: a, y :: b, h => by
    have := zEM (z := z) (a := a) (b := b) (by simpa using h)
    show (bif x != y then decide (x < y) else lexB (a ++ z) (b ++ z)) = (bif x != y then decide (x < y) else lexB a b)
    rw [this]
theorem lt_lex {a b : List Int} (ha : a.length ≤ 4) (hl : a.length = b.length) : ltOf Tryz.cmpH (tup4 a) (tup4 b) = lexB a b := by
  rw [← zEM (z := List.replicate (4 - a.length) 0) hl, ← zBb ha]
  rw [show b ++ List.replicate (4 - a.length) 0 = hand4 b from by rw [hl]; exact (zBb (by omega)).symm]
  rw [ltH, zBZ, zBZ]
  generalize tup4 a = x
  generalize tup4 b = y
  rw [Bool.eq_iff_iff, decide_eq_true_eq, yd, yd, yd, yd]
  have : lexB ([] : List Int) [] = false := rfl
  rw [this]
  simp
theorem zAv (ts : List T4) : (sort4 ts).Perm ts := List.mergeSort_perm _ _
theorem sort4_le (ts : List T4) : (sort4 ts).Pairwise fun x y => ltOf Tryz.cmpH y x = false := by
  have := List.pairwise_mergeSort (le := fun x y => !(ltOf Tryz.cmpH y x)) (fun a b c h1 h2 => by
    simp only [Bool.not_eq_true'] at h1 h2 ⊢
    exact swoH.ntrans c b a h2 h1) (fun a b => by
    cases h1 : ltOf Tryz.cmpH b a with
    | false => rfl
    | true =>
      cases h2 : ltOf Tryz.cmpH a b with
      | false => rfl
      | true => have := swoH.trans _ _ _ h1 h2; rw [swoH.irrefl] at this; cases this) ts
  exact this.imp fun h => by simpa using h
theorem tup_inj {N : Nat} {a b : List Int} (hN : N ≤ 4) (ha : a.length = N) (hb : b.length = N) (h : tup4 a = tup4 b) : a = b := by
  rw [← zBj (h := a) (by omega), ← zBj (h := b) (by omega), h, ha, hb]
theorem zB5 {r : Reg} {N : Nat} (v : Valid r) (hN : N ≤ 9) : sort4 ((rawHands r N).map tup4) = (handsL r N).map tup4 := by
  have h4 : r.houses.toNat ≤ 4 := by have := v.h4; omega
  have hlen : ∀ h ∈ rawHands r N, h.length = r.houses.toNat := fun h hh => ((zDb v hN).1 hh).1
  have hS : ∀ t ∈ sort4 ((rawHands r N).map tup4), ∃ h ∈ rawHands r N, t = tup4 h := fun t ht => by
    obtain ⟨h, hh, e⟩ := List.mem_map.1 ((zAv _).mem_iff.1 ht)
    exact ⟨h, hh, e.symm⟩
  have hun : ∀ h ∈ rawHands r N, untup r.houses.toNat (tup4 h) = h := fun h hh => by
    have := zBj (h := h) (by rw [hlen h hh]; exact h4)
    rwa [hlen h hh] at this
  have hnd : (sort4 ((rawHands r N).map tup4)).Nodup := by
    rw [(zAv _).nodup_iff]
    refine List.Pairwise.map _ (R := fun a b => a ∈ rawHands r N ∧ b ∈ rawHands r N ∧ a ≠ b) (fun a b h e => h.2.2 (tup_inj h4 (hlen a h.1) (hlen b h.2.1) e)) ?_
    have := raw_nodup (r := r) (N := N)
    exact List.Pairwise.imp_of_mem (fun ha hb h => ⟨ha, hb, h⟩) this
  have hL : (sort4 ((rawHands r N).map tup4)).map (untup r.houses.toNat) = handsL r N := by
    refine sorted_hands v hN ?_ fun l => ?_
    · unfold Sorted8
      rw [List.pairwise_map]
      refine List.Pairwise.imp_of_mem (R := fun x y => ltOf Tryz.cmpH y x = false ∧ x ≠ y) (fun {x y} hx hy h => ?_) ((sort4_le _).and hnd)
      obtain ⟨a, ha, rfl⟩ := hS x hx
      obtain ⟨b, hb, rfl⟩ := hS y hy
      rw [hun a ha, hun b hb]
      have e1 := hlen a ha
      have e2 := hlen b hb
      rw [lt_lex (by omega) (by omega)] at h
      cases hc : lexB a b with
      | true => rfl
      | false => exact (h.2 (by rw [zEd (by omega) hc h.1])).elim
    · rw [List.mem_map]
      constructor
      · rintro ⟨t, ht, rfl⟩
        obtain ⟨h, hh, rfl⟩ := hS t ht
        rw [hun h hh]; exact hh
      · intro hl
        exact ⟨tup4 l, (zAv _).mem_iff.2 (List.mem_map.2 ⟨l, hl, rfl⟩), hun l hl⟩
  rw [← hL, List.map_map]
  conv => lhs; rw [← List.map_id (sort4 ((rawHands r N).map tup4))]
  refine List.map_congr_left fun t ht => ?_
  obtain ⟨h, hh, rfl⟩ := hS t ht
  show tup4 h = tup4 (untup r.houses.toNat (tup4 h))
  rw [hun h hh]
theorem zAh (hs : List (List Int)) : t4T (hs.map tup4) = (hs.map handE).flatten.map .d := by
  induction hs with
  | nil => rfl
  | cons h hs ih =>
    show ([h.getD 0 0, h.getD 1 0, h.getD 2 0, h.getD 3 0] ++ flat4 (hs.map tup4)).map _ = _
    rw [List.map_append, show (h :: hs).map handE = handE h :: hs.map handE from rfl, List.flatten_cons, List.map_append, ← ih]
    rfl
theorem zDr (hs : List (List Int)) (h : List Int) : t4T ((hs ++ [h]).map tup4) = t4T (hs.map tup4) ++ [handE h].flatten.map .d := by
  rw [zAh, zAh, List.map_append, List.flatten_append, List.map_append]; rfl
theorem zCJ {hs : List (List Int)} : ∀ c ∈ hs.map handE, c.length = 4 := fun c hc => by obtain ⟨x, _, rfl⟩ := List.mem_map.1 hc; rfl
theorem vecV_len {v : Value} {sz : Nat} {cs cs' : List TV} (h : VecV v sz cs) (e : cs'.length = cs.length) : VecV v sz cs' := by
  rcases h with ⟨h1, h2⟩ | ⟨b, n, cap, h1, h2, h3, h4⟩
  · left; subst h2; exact ⟨h1, List.eq_nil_of_length_eq_zero (by simpa using e)⟩
  · right; exact ⟨b, n, cap, h1, h2, h3, e.trans h4⟩
theorem gh_gone {Γ : Cx} {σ : St} (id : Nat) : Ghost Γ σ (σ.rput id .gone) := fun a w F hs => ⟨F, hs.rput trivial (fun b hb => hb.elim), fun _ _ h => h⟩
theorem flatten_len {es : List (List D)} {sz : Nat} (h : ∀ c ∈ es, c.length = sz) : es.flatten.length = es.length * sz := yl h
theorem PureAt.vecV {P : Program} {f : FuncId} {ds1 ds2 : List D} {r : D} {u : Value} {sz : Nat} {es : List (List D)} {id e : Nat} {v : Value} {cs : List TV} (h : PureAt P f (ds1 ++ .slice sz es :: ds2) r) (hr : r.sim = some u) (hV : VecV v sz cs)
    (hc : cs = es.flatten.map .d) (hsz : ∀ c ∈ es, c.length = sz) (hpos : 0 < sz) :
    EffAt P f (ds1.map .d ++ .val v :: ds2.map .d) [(id, vecRes e v sz cs)] (X := Unit) (fun _ => .d r) (fun _ => [(id, vecRes e v sz cs)]) := by
  have hfl := flatten_len hsz
  rcases hV with ⟨rfl, h0⟩ | ⟨b, n, cap, rfl, h1, h2, h3⟩
  · have he : es = [] := by
      rw [hc, List.map_eq_nil_iff] at h0
      rw [h0] at hfl
      have : es.length * sz = 0 := hfl.symm
      rcases Nat.mul_eq_zero.1 this with k | k
      · exact List.eq_nil_of_length_eq_zero k
      · omega
    subst he
    refine ⟨h.1, fun w F vs hv hh => ?_⟩
    obtain ⟨xs, ys, rfl, hx, hy⟩ := hv.split
    obtain ⟨v1, zs, rfl, hv1, hz⟩ := hy
    have hrow : Rep F w (.slice sz []) v1 := by
      simp only [TRep] at hv1
      exact ⟨none, 0, hv1, Nat.le_refl _, Nat.zero_le _, .inl rfl⟩
    have hargs : RepVals F w (ds1 ++ .slice sz [] :: ds2) (xs ++ v1 :: zs) := (hx.of_d).append ⟨v1, zs, rfl, hrow, hz.of_d⟩
    have hglob : GOK w (fun _ => False) := fun g hg => by
      obtain ⟨h1, h2, h3⟩ := hh.glob g hg
      exact ⟨h1, fun k => k, h3⟩
    refine (h.2 w F _ hh.fcell hglob hargs).mono fun e w' ⟨v, F2, e1, hb, hrep, _⟩ => ⟨(), v, F, e1, ?_, ?_⟩
    · exact (kq hr).2 ((kq hr).1 hrep)
    · have hlt : ∀ c o, F c o → c < w.heap.size := fun c o hf => by
        obtain ⟨x, hx⟩ := hh.fcell c o hf
        exact World.block_lt_of_cell? w ⟨c, o, none⟩ hx
      exact {
        os := hb.os
        tape := hb.tape
        output := hb.output
        hsize := hb.size
        old := fun k hk _ => hb.block k hk
        fcell := fun c o hf => by
          obtain ⟨x, hx⟩ := hh.fcell c o hf
          exact ⟨x, (ko (hb.block c (hlt c o hf))).trans hx⟩
        keep := fun c o hf => ko (hb.block c (hlt c o hf))
        f0 := fun _ _ hf => hf
        fnew := fun _ _ hf _ _ => hf
        glob := hh.glob
        res := fun i r1 hi => by
          by_cases e2 : id = i
          · subst e2
            rw [zY] at hi
            cases hi
            trivial
          · rw [zk _ _ e2] at hi; cases hi
        sep := hh.sep }
  · have hn : n = es.length := by
      rw [hc, List.length_map, hfl] at h3
      exact (Nat.eq_of_mul_eq_mul_right hpos h3).symm
    exact PureAt.vec (rest := List.replicate ((cap - n) * sz) .any) h hr hn (by rw [hc]) hsz h1 h2
end Go.Proofs.YtaokpncjemkhcaaGreat
namespace Go.Proofs.YtaokpncjemkhcaaGreat
open Go.RowKit
set_option maxRecDepth 20000
set_option linter.all false
theorem waysX_get {l : Ldg} {N j : Nat} {x : List D} (h : (waysX l N)[j]? = some x) : ∃ p, (waysL l.reg N)[j]? = some p ∧ x = [ints p] := by
  unfold waysX at h
  rw [List.getElem?_map] at h
  cases hp : (waysL l.reg N)[j]? with
  | none => rw [hp] at h; cases h
  | some p => rw [hp] at h; exact ⟨p, rfl, (Option.some.inj h).symm⟩
theorem waysX_len (l : Ldg) (N : Nat) : ∀ x ∈ waysX l N, x.length = (#[9] : Array Tmp).size := fun x hx => by
  obtain ⟨p, _, rfl⟩ := List.mem_map.1 hx; rfl
theorem ways_bd {r : Reg} {N : Nat} {p : List Int} (v : Valid r) (hN : N ≤ 9) (h : p ∈ waysL r N) : p.length = r.start.length ∧ ∀ x ∈ p, 0 ≤ x ∧ x < r.houses := by
  obtain ⟨h1, o, ho, h2⟩ := (zA6 v hN).1 h
  refine ⟨h1, fun x hx => ?_⟩
  obtain ⟨i, hi, rfl⟩ := List.mem_iff_getElem.1 hx
  have := h2 i hi
  rw [List.getD_eq_getElem?_getD, List.getElem?_eq_getElem hi, Option.getD_some] at this
  rw [← this]; exact zEr v hN ho (by omega)
def cntL (p : List Int) : List Int := (List.range 4).map fun (a : Nat) => ((p.countP fun x => x == (a : Int) : Nat) : Int)
theorem zAe (p : List Int) : (cntL p).length = 4 := by simp [cntL]
theorem zEg {p : List Int} {a : Nat} (h : a < 4) : (cntL p).getD a 0 = ((p.countP fun x => x == (a : Int) : Nat) : Int) := by
  unfold cntL
  rw [List.getD_eq_getElem?_getD, List.getElem?_map, List.getElem?_range h]; rfl
theorem cnt_succ {p : List Int} {i n : Nat} (h : p[i]? = some (n : Int)) (hn : n < 4) : (cntL (p.take i)).set n ((cntL (p.take i)).getD n 0 + 1) = cntL (p.take (i + 1)) := by
  apply List.ext_getElem?
  intro a
  rw [List.getElem?_set, zAe]
  by_cases ha : a < 4
  · have e : (cntL (p.take (i + 1)))[a]? = some (((p.take (i + 1)).countP fun x => x == (a : Int) : Nat) : Int) := by unfold cntL; rw [List.getElem?_map, List.getElem?_range ha]; rfl
    rw [e, List.take_add_one, h, List.countP_append]
    by_cases hna : n = a
    · subst hna
      rw [if_pos rfl, if_pos ha, zEg ha]; simp
    · rw [if_neg hna]
      have e2 : (cntL (p.take i))[a]? = some (((p.take i).countP fun x => x == (a : Int) : Nat) : Int) := by unfold cntL; rw [List.getElem?_map, List.getElem?_range ha]; rfl
      rw [e2]
      have : ((n : Int) == (a : Int)) = false := by simp; omega
      simp [this]
  · have e1 : (cntL (p.take (i + 1)))[a]? = none := List.getElem?_eq_none (by rw [zAe]; omega)
    have e2 : (cntL (p.take i))[a]? = none := List.getElem?_eq_none (by rw [zAe]; omega)
    rw [e1, e2, if_neg (by omega)]
theorem vec_one4 {v : Value} {sz : Nat} {cs : List TV} (hV : VecV v sz cs) : (TV.val v).one = true := by
  rcases hV with ⟨rfl, _⟩ | ⟨b, n, cap, rfl, _⟩ <;> rfl
theorem cnt_bd {p : List Int} {a : Nat} : 0 ≤ (cntL p).getD a 0 ∧ (cntL p).getD a 0 ≤ p.length := by
  by_cases ha : a < 4
  · rw [zEg ha]
    have := List.countP_le_length (p := fun x => x == (a : Int)) (l := p)
    omega
  · rw [List.getD_eq_getElem?_getD, List.getElem?_eq_none (by rw [zAe]; omega)]; simp
theorem cnt_hand {H : Nat} {p : List Int} (hH : H ≤ 4) (hp : ∀ x ∈ p, 0 ≤ x ∧ x < (H : Int)) : intsT (cntL p) = (handE (countH H p)).map .d := by
  have key : ∀ a : Nat, a < 4 → ((p.countP fun x => x == (a : Int) : Nat) : Int) = (countH H p).getD a 0 := fun a ha => by
    unfold countH
    rw [List.getD_eq_getElem?_getD, List.getElem?_map]
    by_cases h : a < H
    · rw [List.getElem?_range h]; rfl
    · rw [List.getElem?_eq_none (by simpa using h)]
      have : (p.countP fun x => x == (a : Int)) = 0 := List.countP_eq_zero.2 fun x hx => by have := hp x hx; simp; omega
      rw [this]; rfl
  show [TV.d (.int .i64 _), TV.d (.int .i64 _), TV.d (.int .i64 _), TV.d (.int .i64 _)] = _
  simp only [key 0 (by decide), key 1 (by decide), key 2 (by decide), key 3 (by decide)]
  rfl
theorem zEU {N : Nat} (hN : N ≤ 4) {out : List (List Int)} {h : List Int} (ho : ∀ x ∈ out, x.length = N) (hh : h.length = N) : anyH out h = out.any fun x => x == h := by
  unfold anyH
  rw [Bool.eq_iff_iff, List.any_eq_true, List.any_eq_true]
  constructor
  · rintro ⟨x, hx, e⟩
    exact ⟨x, hx, by rw [zEl hN hh (ho x hx)] at e; rw [eq_of_beq e]; simp⟩
  · rintro ⟨x, hx, e⟩
    exact ⟨x, hx, by rw [zEl hN hh (ho x hx), eq_of_beq e]; simp⟩
theorem raw_take {l : Ldg} {N j : Nat} {p : List Int} (h : (waysL l.reg N)[j]? = some p) : ((waysL l.reg N).take (j + 1)).foldl (fun o p => addNew o (countH l.reg.houses.toNat p)) [] = addNew (((waysL l.reg N).take j).foldl (fun o p => addNew o (countH l.reg.houses.toNat p)) []) (countH l.reg.houses.toNat p) := by
  rw [List.take_add_one, h, List.foldl_append]; rfl
theorem fold_len {H : Nat} {out : List (List Int)} {L : List (List Int)} (h : out = L.foldl (fun o p => addNew o (countH H p)) []) : ∀ x ∈ out, x.length = H := fun x hx => by
  subst h
  rcases (kB L [] x).1 hx with h | ⟨p, _, rfl⟩
  · cases h
  · exact yu
theorem zEB {l : Ldg} {N : Nat} : ∀ (k : Nat) (hs : List Int), (∀ s, (candL l.reg N s).length ≤ 4) → (putN l N k hs).length ≤ 4 ^ k
  | 0, hs, _ => by
    show (if heldB l.reg N hs = true then [hs] else []).length ≤ _
    split <;> simp
  | k + 1, hs, hc => by
    show (if heldB l.reg N hs = true then (candL l.reg N hs.length).flatMap (fun h => putN l N k (hs ++ [h])) else []).length ≤ _
    split
    · have h1 : ∀ c : List Int, (c.flatMap fun h => putN l N k (hs ++ [h])).length ≤ c.length * 4 ^ k := fun c => by
        induction c with
        | nil => simp
        | cons x c ih =>
          have := zEB k (hs ++ [x]) hc
          simp only [List.flatMap_cons, List.length_append, List.length_cons, Nat.add_mul]
          omega
      have h2 := h1 (candL l.reg N hs.length)
      have h3 := Nat.mul_le_mul_right (4 ^ k) (hc hs.length)
      rw [Nat.pow_succ]; omega
    · simp
theorem zDJ {H : Nat} : ∀ (L out : List (List Int)), (L.foldl (fun o p => addNew o (countH H p)) out).length ≤ out.length + L.length
  | [], out => by simp
  | p :: L, out => by
    have h1 := zDJ (H := H) L (addNew out (countH H p))
    have h2 : (addNew out (countH H p)).length ≤ out.length + 1 := by unfold addNew; split <;> simp
    simp only [List.foldl_cons, List.length_cons]; omega
theorem ways_256 {l : Ldg} {N : Nat} (v : Valid l.reg) : (waysL l.reg N).length ≤ 256 := by
  have h := zEB (l := l) (N := N) l.reg.start.length [] fun s => (zEk v.h4).1
  have h2 : 4 ^ l.reg.start.length ≤ 4 ^ 4 := Nat.pow_le_pow_right (by decide) v.s4
  exact Nat.le_trans h (Nat.le_trans h2 (by decide))
theorem sz116 : Sz Tryz.prog 116 1 := (by kernel_rfl : (Tryz.prog.info? 116).map (·.size) = some 1)
theorem zr116 : (Tryz.prog.info? 116).map (·.zero) = some (some (.slice none 0 0)) := by kernel_rfl
theorem zr121 : (Tryz.prog.info? 121).map (·.zero) = some (some (.agg #[(.int .i64 0), (.int .i64 0), (.int .i64 0), (.int .i64 0)])) := by kernel_rfl
theorem elt116 : ElT Tryz.prog 116 121 4 32 := zAt Tryz.underlying116 (z := (.agg #[(.int .i64 0), (.int .i64 0), (.int .i64 0), (.int .i64 0)])) (by kernel_rfl) rfl (by decide)
theorem hands_eff (l : Ldg) (N : Nat) (hd5 : l.day = (N : Int)) (v : Valid l.reg) (hg0 : l.reg.sights = []) (hN9 : N ≤ 9) : EffAt Tryz.prog 90 [.d (ldgD l)] [] (X := Unit) (fun _ => .d (handsD (handsL l.reg N))) (fun _ => []) := by
 have hh4 := v.h4; have hh1 := v.h1; have hs4 := v.s4; have hHe : l.reg.houses = ((l.reg.houses.toNat : Nat) : Int) := (by omega)
 have h256 := ways_256 (l := l) (N := N) v
 refine EffAt.of_awpM Tryz.func90 rfl (by kernel_rfl) rfl fun Γ hn => ?_
 refine zC (zB ?_)
 refine stepW (zt 1 rfl rfl rfl (nb hn rfl) rfl rfl) fun b1 => ?_
 refine stepW (zi 2 rfl rfl rfl (nb hn rfl) zr116 rfl rfl) fun b2 => ?_
 refine zE (zA (zC (zC ?_)))
 refine zz (gh_nilcell (id := 2) (k := 0) 1041 121 4 rfl rfl) ?_
 refine zz (gh_gone 1041) ?_
 refine zB ?_
 refine sq rfl rfl hn rfl (zZ rfl rfl (id := 1) rfl Tryz.underlying50 rfl sz50 rfl rfl sees0) ?_
 refine stepW (s_call [] (fun _ => places_fn l) rfl (zK rfl) rfl (nb hn rfl) (fun _ => trivial) rfl rfl (.refl _)) fun _ => ?_
 refine zE (zA (zS ?_))
 refine awp_rangeFunc (ι := {x : List (List Int) × Value // VecV x.2 4 (t4T (x.1.map tup4))}) (fun x => [(2, .box b2 116 [.val x.1.2]), (1041, vecRes 121 x.1.2 4 (t4T ((x.1.1).map tup4)))]) (fun j x => x.1.1 = ((waysL l.reg N).take j).foldl (fun o p => addNew o (countH l.reg.houses.toNat p)) []) (fun _ _ => False) ⟨([], .slice none 0 0), VecV.nil 4⟩ (places1_ok l N hd5 v hg0 hN9) rfl (waysX_len l N) (by rw [hn]; rfl) (.inl rfl) ⟨rfl, rfl, trivial⟩ rfl (fun _ => rfl) (fun _ => rfl) rfl rfl ?_ ?_ ?_
 ·
  rintro l0 r0 Γr j0 x0 ⟨⟨out, vo⟩, hVo⟩ hnr hrd hx0 hA0
  dsimp only at hA0 hVo
  obtain ⟨p, hp, rfl⟩ := waysX_get hx0
  obtain ⟨hpl, hpb⟩ := ways_bd v hN9 (List.mem_of_getElem? hp)
  have hol := fold_len hA0
  have ho256 := zDJ (H := l.reg.houses.toNat) ((waysL l.reg N).take j0) []
  rw [← hA0] at ho256
  simp only [List.length_nil, List.length_take] at ho256
  refine zg ?_
  refine sqI rfl rfl (hnr.trans hn) rfl (zF rfl rfl) rfl ?_
  refine zo ?_
  refine aend_begin hrd rfl ?_
  refine yn (zx (zg ?_))
  refine stepWI ((zi 4 rfl rfl rfl (nb (hnr.trans hn) rfl) zr121 rfl rfl).i rfl) fun b4 => ?_
  refine zo (zf (zx (zx (zg ?_))))
  refine sqI rfl rfl (hnr.trans hn) rfl (zG rfl rfl) rfl ?_
  refine sqI rfl rfl (hnr.trans hn) rfl (zy rfl rfl Tryz.underlying22) rfl ?_
  refine sqI rfl rfl (hnr.trans hn) rfl (zG rfl rfl) rfl ?_
  refine zo (zf (yn ?_))
  refine zBx (ι := {x : Nat // x ≤ p.length}) (fun x => (12, true, .d (.int .i64 (x.1 : Nat))) :: anys [13, 14, 15, 6, 16, 17, 18, 19, 20, 21]) (fun x => [(4, .box b4 121 (intsT (cntL (p.take x.1))))]) (fun x => p.length - x.1) ⟨0, Nat.zero_le _⟩ ⟨.inl rfl, zI _⟩ ⟨.inl rfl, trivial⟩ ?_
  rintro ⟨i, hi⟩
  dsimp only
  refine zx (zg ?_)
  refine sqI rfl rfl (hnr.trans hn) rfl (yL rfl rfl rfl) rfl ?_
  refine zo (zf (zx ?_))
  refine ye rfl (fun hb0 => ?_) (fun hb0 => ?_)
  ·
   have hil : i < p.length := by simpa using hb0
   obtain ⟨z, hz⟩ := z8 hil
   have hzb := hpb z (List.mem_of_getElem? hz)
   obtain ⟨n, rfl⟩ : ∃ n : Nat, z = (n : Int) := ⟨z.toNat, by omega⟩
   have hn4 : n < 4 := by omega
   have hcb := cnt_bd (p := p.take i) (a := n)
   have htl : (p.take i).length ≤ 4 := by rw [List.length_take]; omega
   refine yf (zf (zx (yn (zx (zg ?_)))))
   refine sqI rfl rfl (hnr.trans hn) rfl (q_index (i := i) rfl rfl rfl Tryz.underlying22 sz3 rfl (mget hz)) rfl ?_
   refine sqI rfl rfl (hnr.trans hn) rfl (zQ rfl rfl Tryz.underlying3 rfl seesF0) rfl ?_
   refine sqI rfl rfl (hnr.trans hn) rfl (zF rfl rfl) rfl ?_
   refine zo (zf (zg ?_))
   refine sqI rfl rfl (hnr.trans hn) rfl (zG rfl rfl) rfl ?_
   refine sqI rfl rfl (hnr.trans hn) rfl (q_indexA (i := n) rfl rfl rfl Tryz.underlying121 sz3 rfl hn4) rfl ?_
   refine sqI rfl rfl (hnr.trans hn) rfl (zO rfl rfl (id := 4) rfl Tryz.underlying3 rfl (intsT_get (by rw [zAe]; exact hn4)) sees0) rfl ?_
   refine sqI rfl rfl (hnr.trans hn) rfl (z6 rfl rfl rfl (i64w (by omega) rfl)) rfl ?_
   refine sqI rfl rfl (hnr.trans hn) rfl (q_indexA (i := n) rfl rfl rfl Tryz.underlying121 sz3 rfl hn4) rfl ?_
   refine stepWI ((s_store1 rfl rfl rfl rfl rfl rfl (id := 4) rfl sz3 (by show 0 + n * 1 < _; rw [zCj, zAe]; omega) (zDI.trans (congrArg intsT (cnt_succ hz hn4))) trivial).i rfl) fun _ => ?_
   refine zo (zX (zf (zg ?_)))
   refine sqI rfl rfl (hnr.trans hn) rfl (z6 rfl rfl rfl (r := ((i + 1 : Nat) : Int)) (i64w (by omega) (by omega))) rfl ?_
   refine sqI rfl rfl (hnr.trans hn) rfl (zG rfl rfl) rfl ?_
   refine zo ?_
   exact zV ⟨i + 1, by omega⟩ ⟨.inl rfl, zI _⟩ ⟨.inl rfl, trivial⟩ (by simp only; omega) (by repeat (first | exact kr _ | refine kc rfl ?_)) (by repeat (first | exact kr _ | refine kc rfl ?_))
  ·
   obtain rfl : i = p.length := by simp at hb0; omega
   rw [List.take_length, cnt_hand (H := l.reg.houses.toNat) (by omega) (fun x hx => by have := hpb x hx; omega)]
   refine zAR (zJ (zJ (zU (zf (zx (zg ?_))))))
   refine sqI rfl rfl (hnr.trans hn) rfl (zO rfl rfl (id := 2) rfl Tryz.underlying116 rfl rfl sees0) rfl ?_
   refine sqI rfl rfl (hnr.trans hn) rfl (zZ rfl rfl (id := 4) rfl Tryz.underlying121 rfl sz121 rfl rfl sees0) rfl ?_
   refine stepWI ((s_callE (PureAt.vecV (id := 1041) (e := 121) (ds1 := []) (ds2 := [handD (countH l.reg.houses.toNat p)]) (Contains_hand out (countH l.reg.houses.toNat p)) rfl hVo (zAh out) zCJ (by decide)) rfl rfl rfl (nb (hnr.trans hn) rfl) (.d rfl) rfl (.refl _) ⟨rfl, trivial⟩ (fun _ => rfl) (fun _ _ => trivial)).i rfl) fun _ => ?_
   refine sqI rfl rfl (hnr.trans hn) rfl (yE rfl rfl) rfl ?_
   refine zo (zf ?_)
   refine zBt (e := .normal) (ι := {x : Value // VecV x 4 (t4T ((addNew out (countH l.reg.houses.toNat p)).map tup4))}) (fun x => anys [26, 27, 28, 29]) (fun x => [(2, .box b2 116 [.val x.1]), (1041, vecRes 121 x.1 4 (t4T ((addNew out (countH l.reg.houses.toNat p)).map tup4)))]) (fun hJ1 => ?_) ?_
   ·
    refine ye rfl (fun hb1 => ?_) (fun hb1 => ?_)
    ·
     have hat : addNew out (countH l.reg.houses.toNat p) = out ++ [countH l.reg.houses.toNat p] := if_neg (by rw [← zEU (by omega) hol yu, notT hb1]; simp)
     refine zg ?_
     refine sqI rfl rfl (hnr.trans hn) rfl (zO rfl rfl (id := 2) rfl Tryz.underlying116 rfl rfl sees0) rfl ?_
     refine sqI rfl rfl (hnr.trans hn) rfl (zZ rfl rfl (id := 4) rfl Tryz.underlying121 rfl sz121 rfl rfl sees0) rfl ?_
     refine stepWI ((zh rfl rfl rfl (nb (hnr.trans hn) rfl) Tryz.underlying116 sz121 zr121 rfl rfl rfl (show _ = [.d (.int .i64 0), .d (.int .i64 0), .d (.int .i64 0), .d (.int .i64 0)] from by kernel_rfl) (by kernel_rfl) rfl (zCC rfl rfl) rfl rfl rfl).i rfl) fun _ => ?_
     refine stepWI ((zCv (id := 1041) rfl rfl rfl (nb (hnr.trans hn) rfl) elt116 zr121 rfl hVo rfl rfl rfl (by simp [chunk, yR]; omega) (by simp [chunk, yR]; omega) (fun _ _ => trivial)).i rfl) fun ⟨v29, hV29⟩ => ?_
     have hV3 : VecV v29 4 (t4T ((addNew out (countH l.reg.houses.toNat p)).map tup4)) := by rw [hat, zDr]; exact hV29
     refine stepWI ((s_store1 rfl rfl rfl rfl rfl (vec_one4 hV3) (id := 2) rfl sz116 (Nat.le_of_ble_eq_true rfl) rfl trivial).i rfl) fun _ => ?_
     refine zo ?_
     exact aend_join_on hJ1 ⟨v29, hV3⟩ (zI _) ⟨.inl rfl, .inl (congrArg (fun z => some (vecRes 121 v29 4 z)) (by rw [hat, zDr]; rfl)), trivial⟩ (by repeat (first | exact kr _ | refine kc rfl ?_)) (by repeat (first | exact kr _ | refine kc rfl ?_))
    ·
     have haf : out = addNew out (countH l.reg.houses.toNat p) := (if_pos (by rw [← zEU (by omega) hol yu]; exact notF hb1)).symm
     refine yf ?_
     exact aend_join_on hJ1 ⟨vo, haf ▸ hVo⟩ (zI _) ⟨.inl rfl, .inl (congrArg (fun z : List (List Int) => some (vecRes 121 vo 4 (t4T (z.map tup4)))) haf), trivial⟩ (by repeat (first | exact kr _ | refine kc rfl ?_)) (by repeat (first | exact kr _ | refine kc rfl ?_))
   ·
    rintro ⟨v2, hV2⟩
    dsimp only
    refine zX ?_
    exact yy ⟨(addNew out (countH l.reg.houses.toNat p), v2), hV2⟩ (by show addNew out _ = _; rw [raw_take hp, ← hA0]) ⟨rfl, rfl, rfl, trivial⟩
 ·
  rintro ⟨⟨out, vo⟩, hVo⟩ D0 hA0
  rw [show (waysX l N).length = (waysL l.reg N).length by simp [waysX], List.take_length] at hA0
  dsimp only at hA0 hVo
  have hraw : out = rawHands l.reg N := hA0
  subst hraw
  have hr256 : (rawHands l.reg N).length ≤ 256 := by (have := zDJ (H := l.reg.houses.toNat) (waysL l.reg N) []; unfold rawHands; simp only [List.length_nil] at this; omega)
  refine zX (zA (zC (zB ?_)))
  refine sq rfl rfl hn rfl (zO rfl rfl (id := 2) rfl Tryz.underlying116 rfl rfl sees0) ?_
  refine stepW (s_callE (sortV_eff hVo (by rw [List.length_map]; omega)) rfl rfl rfl (nb hn rfl) (.d rfl) rfl (.refl _) ⟨rfl, trivial⟩ (fun _ => rfl) (fun _ _ => trivial)) fun _ => ?_
  refine zE (zA (zC (zB ?_)))
  refine sq rfl rfl hn rfl (zO rfl rfl (id := 2) rfl Tryz.underlying116 rfl rfl sees0) ?_
  rw [zB5 v hN9]
  have hVs : VecV vo 4 (t4T ((handsL l.reg N).map tup4)) := by rw [← zB5 v hN9]; exact vecV_len hVo (by simp only [List.length_map, yR, sort4, List.length_mergeSort])
  refine y9 (g_vec (t := 32) (id := 1041) (n := (handsL l.reg N).length) (es := (handsL l.reg N).map handE) rfl hVs rfl (zAh _) (by rw [List.length_map, yR, List.length_map]) (by decide) (by have := kh (k := 4) (rows := (handsL l.reg N).map handE) zCJ; rw [List.length_map] at this; exact this)) ?_
  refine stepW (s_store1 rfl rfl rfl rfl rfl rfl (id := 2) rfl sz116 (Nat.le_of_ble_eq_true rfl) rfl trivial) fun _ => ?_
  refine zE (zA (zP ?_))
  exact ret_M (.inl rfl) () (.inr rfl) (yD rfl (.cell rfl (id := 2) rfl Tryz.underlying116 rfl rfl)) trivial rfl
 ·
  exact fun _ _ _ h => h.elim
end Go.Proofs.YtaokpncjemkhcaaGreat
namespace Go.Proofs.YtaokpncjemkhcaaGreat
open Go.RowKit
set_option maxRecDepth 20000
set_option linter.all false
/-- A valid ledger. -/
structure Lok (l : Ldg) : Prop where
  v : Valid l.reg
  g0 : l.reg.sights = []
  d0 : 0 ≤ l.day ∧ l.day ≤ 9
  ln : (l.lends.length : Int) = l.reg.houses
  dl : l.dues.length ≤ 6
  dq : ∀ q ∈ l.dues, (0 ≤ q.frm ∧ q.frm ≤ l.reg.houses - 1) ∧ (0 ≤ q.to ∧ q.to ≤ l.reg.houses - 1) ∧ q.frm ≠ q.to ∧ 1 ≤ q.num ∧ q.num ≤ 4
theorem zCF {l : Ldg} (h : checkL l = 0) : Lok l := by
  have v := kl (check_reg h)
  unfold checkL at h
  rw [show (checkE l.reg != 0) = false by rw [kg v]; rfl, cond_false] at h
  cases h1 : decide (6 < (l.dues.length : Int)) with
  | true => rw [h1] at h; cases h
  | false =>
    rw [h1, cond_false] at h
    cases h2 : argL l with
    | true => rw [h2] at h; cases h
    | false =>
      unfold argL at h2
      simp only [Bool.or_eq_false_iff, decide_eq_false_iff_not, Bool.not_eq_false', Bool.and_eq_true, decide_eq_true_eq, bne_eq_false_iff_eq, List.all_eq_true] at h1 h2
      obtain ⟨⟨⟨e1, e2⟩, e3⟩, e4⟩ := h2
      refine ⟨v, List.eq_nil_of_length_eq_zero (by omega), e2, e3, by omega, fun q hq => ?_⟩
      have := e4 q hq
      unfold dueB at this
      rw [yJ v.h1 v.h4, yJ v.h1 v.h4] at this
      simp only [Bool.and_eq_true, decide_eq_true_eq, bne_iff_ne, ne_eq] at this
      obtain ⟨⟨⟨a, b⟩, c⟩, d⟩ := this
      exact ⟨a, b, c, d⟩
theorem zD6 {l : Ldg} (L : Lok l) : checkL l = 0 := by
  unfold checkL
  rw [kg L.v]
  have h1 : decide (6 < (l.dues.length : Int)) = false := by have := L.dl; simp; omega
  have h2 : argL l = false := by
    unfold argL
    simp only [Bool.or_eq_false_iff, decide_eq_false_iff_not, Bool.not_eq_false', Bool.and_eq_true, decide_eq_true_eq, bne_eq_false_iff_eq, List.all_eq_true]
    refine ⟨⟨⟨by rw [L.g0]; simp, L.d0⟩, L.ln⟩, fun q hq => ?_⟩
    obtain ⟨a, b, c, d⟩ := L.dq q hq
    unfold dueB
    rw [yJ L.v.h1 L.v.h4, yJ L.v.h1 L.v.h4]
    simp [a, b, c, d]
  rw [h1, h2]; rfl
def dayN (l : Ldg) : Nat := l.day.toNat
def houN (l : Ldg) : Nat := l.reg.houses.toNat
theorem Lok.dN {l : Ldg} (L : Lok l) : l.day = (dayN l : Int) ∧ dayN l ≤ 9 := by have := L.d0; unfold dayN; omega
theorem Lok.hN {l : Ldg} (L : Lok l) : l.reg.houses = (houN l : Int) ∧ houN l ≤ 4 ∧ 1 ≤ houN l := by have := L.v.h1; have := L.v.h4; unfold houN; omega
/-- All possible hands of a ledger. -/
def handsR (l : Ldg) : List (List Int) := handsL l.reg (dayN l)
def knownR (l : Ldg) : List (List Int) × Int := if checkL l ≠ 0 then ([], checkL l) else if handsR l = [] then ([], 9) else (handsR l, 0)
theorem zBW {l : Ldg} (h : checkL l ≠ 0) : knownR l = ([], checkL l) := if_pos h
theorem zAx {l : Ldg} (h : checkL l = 0) (h2 : handsR l = []) : knownR l = ([], 9) := by unfold knownR; rw [if_neg (by simpa using h), if_pos h2]
theorem zAs {l : Ldg} (h : checkL l = 0) (h2 : handsR l ≠ []) : knownR l = (handsR l, 0) := by unfold knownR; rw [if_neg (by simpa using h), if_neg h2]
theorem handsR_bd {l : Ldg} (L : Lok l) : ∀ h ∈ handsR l, h.length = houN l ∧ ∀ x ∈ h, 0 ≤ x ∧ x ≤ 4 := fun h hh => hands_bd L.v hh
theorem handsR_len {l : Ldg} : (handsR l).length ≤ 5 ^ houN l := by
  unfold handsR handsL refHandsL
  refine Nat.le_trans (List.length_filter_le _ _) ?_
  simp [houN]
theorem handsR_625 {l : Ldg} (L : Lok l) : (handsR l).length ≤ 625 := by
  have h1 := handsR_len (l := l)
  have h2 : 5 ^ houN l ≤ 5 ^ 4 := Nat.pow_le_pow_right (by decide) L.hN.2.1
  omega
theorem zDy {l : Ldg} : (knownR l).1.length ≤ 625 ∧ ∀ h ∈ (knownR l).1, Lok l ∧ h.length = houN l ∧ ∀ x ∈ h, 0 ≤ x ∧ x ≤ 4 := by
  by_cases h : checkL l = 0
  · by_cases h2 : handsR l = []
    · rw [zAx h h2]; exact ⟨by simp, fun _ hh => by cases hh⟩
    · rw [zAs h h2]; exact ⟨handsR_625 (zCF h), fun x hx => ⟨zCF h, handsR_bd (zCF h) x hx⟩⟩
  · rw [zBW h]; exact ⟨by simp, fun _ hh => by cases hh⟩
theorem zEP {h : List Int} {N : Nat} (hb : ∀ x ∈ h, 0 ≤ x ∧ x ≤ 4) (i : Nat) : 0 ≤ h.getD i 0 ∧ h.getD i 0 ≤ 4 := by
  by_cases hi : i < h.length
  · rw [List.getD_eq_getElem?_getD, List.getElem?_eq_getElem hi]; exact hb _ (List.getElem_mem hi)
  · rw [List.getD_eq_getElem?_getD, List.getElem?_eq_none (by omega)]; simp
theorem Lok.hok {l : Ldg} (L : Lok l) {h : List Int} (hb : ∀ x ∈ h, 0 ≤ x ∧ x ≤ 4) : Hok l (houN l) h := by
  have h1 := L.hN
  refine ⟨h1.1, h1.2.1, zEP (N := 0) hb, L.dl, fun q hq => ?_, fun q hq => (L.dq q hq).2.2.2, by have := L.ln; omega⟩
  obtain ⟨a, b, c, _⟩ := L.dq q hq
  exact ⟨a.1, by omega, b.1, by omega, c⟩
theorem known_ok (l : Ldg) : PureAt Tryz.prog 59 [ldgD l] (.tup [handsD (knownR l).1, .int .i64 (knownR l).2]) := by
 refine PureAt.of_awp Tryz.func59 rfl (by kernel_rfl) (Nat.le_of_ble_eq_true rfl) fun Γ hn hl => ?_
 refine zC (zB ?_)
 refine stepW (zt 1 rfl rfl rfl (nb hn rfl) rfl rfl) fun b1 => ?_
 refine sq rfl rfl hn rfl (zF rfl rfl) ?_
 refine sq rfl rfl hn rfl (zF rfl rfl) ?_
 refine zE (zA (zC (zC (zB ?_))))
 refine sq rfl rfl hn rfl (zZ rfl rfl (id := 1) rfl Tryz.underlying50 rfl sz50 rfl rfl sees0) ?_
 refine stepW (s_call [] (fun _ => CheckLedger_ok l) rfl (zK rfl) rfl (nb hn rfl) (fun _ => trivial) rfl rfl (.refl _)) fun _ => ?_
 refine sq rfl rfl hn rfl (zF rfl rfl) ?_
 refine zE (zA (zC (zB ?_)))
 refine sq rfl rfl hn rfl (zG rfl rfl) ?_
 refine sq rfl rfl hn rfl (y7 rfl rfl rfl) ?_
 refine zE (zA ?_)
 refine zR rfl (fun hb0 => ?_) (fun hb0 => ?_)
 ·
  have hc0 : checkL l ≠ 0 := by simpa using hb0
  refine zC (zB ?_)
  refine sq rfl rfl hn rfl (zG rfl rfl) ?_
  refine sq rfl rfl hn rfl (zF rfl rfl) ?_
  refine sq rfl rfl hn rfl (zF rfl rfl) ?_
  refine zE (zA (zP (zM ?_)))
  refine zDS (zCx (.inl rfl) hl rfl (.tmp rfl) (.tmp rfl)) ?_
  rw [zBW hc0]; exact .tup (.cons (.nil 4) (.refl _))
 ·
  have hc0 : checkL l = 0 := by simpa using hb0
  have L := zCF hc0
  refine zT (zA (zC (zB ?_)))
  refine sq rfl rfl hn rfl (zZ rfl rfl (id := 1) rfl Tryz.underlying50 rfl sz50 rfl rfl sees0) ?_
  refine stepW (s_callE (hands_eff l (dayN l) L.dN.1 L.v L.g0 L.dN.2) rfl rfl rfl (nb hn rfl) (.d rfl) rfl (.refl _) trivial (fun _ => rfl) (fun _ _ => trivial)) fun _ => ?_
  refine sq rfl rfl hn rfl (zF rfl rfl) ?_
  refine zE (zA (zC (zC (zB ?_))))
  refine sq rfl rfl hn rfl (zG rfl rfl) ?_
  refine sq rfl rfl hn rfl (zy rfl rfl Tryz.underlying116) ?_
  refine sq rfl rfl hn rfl (yN rfl rfl rfl) ?_
  refine zE (zA ?_)
  refine zR rfl (fun hb1 => ?_) (fun hb1 => ?_)
  ·
   have hc1 : handsR l = [] := by unfold handsR; simpa using hb1
   refine zC (zB ?_)
   refine sq rfl rfl hn rfl (zF rfl rfl) ?_
   refine sq rfl rfl hn rfl (zF rfl rfl) ?_
   refine zE (zA (zP (zM ?_)))
   refine zDS (zCx (.inl rfl) hl rfl (.tmp rfl) (.tmp rfl)) ?_
   rw [zAx hc0 hc1]; exact .tup (.cons (.nil 4) (.refl _))
  ·
   have hc1 : handsR l ≠ [] := fun e => by rw [show handsL l.reg (dayN l) = [] from e] at hb1; cases hb1
   refine zT (zA (zC (zB ?_)))
   refine sq rfl rfl hn rfl (zG rfl rfl) ?_
   refine sq rfl rfl hn rfl (zF rfl rfl) ?_
   refine sq rfl rfl hn rfl (zF rfl rfl) ?_
   refine zE (zA (zP ?_))
   refine zp (zCx (.inl rfl) hl rfl (.tmp rfl) (.tmp rfl)) ?_
   rw [zAs hc0 hc1]; rfl
end Go.Proofs.YtaokpncjemkhcaaGreat
namespace Go.Proofs.YtaokpncjemkhcaaGreat
open Go.RowKit
set_option maxRecDepth 20000
set_option linter.all false
theorem zCw : KLaw Tryz.prog 124 (KV Tryz.prog 124) := KLaw.of (Go.deep_law (m := 3) (by omega) (by kernel_rfl) (by kernel_rfl) (by kernel_rfl))
abbrev KS8 := KV Tryz.prog 124
theorem zr156 : (Tryz.prog.info? 156).map (·.zero) = some (some (.agg #[(.int .i64 0), (.slice none 0 0), (.slice none 0 0), (.slice none 0 0), (.int .i64 0), (.slice none 0 0), (.slice none 0 0), (.map none)])) := by kernel_rfl
theorem bt156 : BT Tryz.prog 156 (.agg #[(.int .i64 0), (.slice none 0 0), (.slice none 0 0), (.slice none 0 0), (.int .i64 0), (.slice none 0 0), (.slice none 0 0), (.map none)]) (fun i => ([(0, 7), (7, 1)] : List (Nat × Nat))[i]?) := yM Tryz.underlying156 zr156 (by kernel_rfl)
theorem work8_eff (l : Ldg) : EffAt Tryz.prog 60 [.d (ldgD l)] [] (X := Nat) (fun b => .d (.ptr (workC8 l b))) (fun b => [(1050, mapRes KS8 b fun _ _ => False)]) := by
 refine EffAt.of_awp Tryz.func60 rfl (by kernel_rfl) rfl fun Γ hn => ?_
 refine zC (zB ?_)
 refine stepW (zt 1 rfl rfl rfl (nb hn rfl) rfl rfl) fun b1 => ?_
 refine sq rfl rfl hn rfl (zF rfl rfl) ?_
 refine zE (zA (zC (zB ?_)))
 refine sq rfl rfl hn rfl (zZ rfl rfl (id := 1) rfl Tryz.underlying50 rfl sz50 rfl rfl sees0) ?_
 refine stepW (zBY (KS8) 1050 rfl rfl rfl (nb hn rfl)) fun b4 => ?_
 refine sq rfl rfl hn rfl (zv rfl bt156 rfl rfl rfl rfl rfl) ?_
 refine stepW (zt 6 rfl rfl rfl (nb hn rfl) rfl rfl) fun b6 => ?_
 refine sq rfl rfl hn rfl (zF rfl rfl) ?_
 refine zE (zA (zP ?_))
 refine kP (zr (t := 2) 6 rfl (nb hn rfl) rfl rfl trivial) ?_
 exact ret_E (.inl rfl) b4 (yD rfl (.tmp rfl)) ⟨rfl, trivial⟩
end Go.Proofs.YtaokpncjemkhcaaGreat
namespace Go.Proofs.YtaokpncjemkhcaaGreat
open Go.RowKit
set_option maxRecDepth 20000
set_option linter.all false
def madeB (l : Ldg) (i : Nat) (h : List Int) : Bool := (bestR l (houN l) h (i : Int)).2.2
@[reducible] def askC (h : List Int) (i : Nat) : List D := handE h ++ [.int .i64 (i : Nat)]
@[reducible] def askD (h : List Int) (i : Nat) : D := .agg (askC h i)
/-- Hands of a ledger. -/
def HsOK (l : Ldg) (h : List Int) : Prop := h.length = houN l ∧ ∀ x ∈ h, 0 ≤ x ∧ x ≤ 4
def Good8 (l : Ldg) (M : D → D → Prop) : Prop := ∀ x y, M x y → ∃ h i, h.length = houN l ∧ x = askD h i ∧ y = .bool (madeB l i h)
theorem good8_none (l : Ldg) : Good8 l fun _ _ => False := fun _ _ h => h.elim
theorem ask_inj {l : Ldg} (h4 : houN l ≤ 4) {h h' : List Int} {i i' : Nat} (hl : h.length = houN l) (hl' : h'.length = houN l) (e : askD h i = askD h' i') : h = h' ∧ i = i' := by
  have e3 := D.agg.inj e
  simp only [askC, handE, List.cons_append, List.nil_append, List.cons.injEq, D.int.injEq, true_and, and_true, Int.natCast_inj] at e3
  obtain ⟨e0, e1, e2, e3, e4⟩ := e3
  refine ⟨(zEC h4 hl hl').1 ?_, e4⟩
  unfold hand4
  rw [e0, e1, e2, e3]
theorem look8 {l : Ldg} (h4 : houN l ≤ 4) {M : D → D → Prop} {h : List Int} {i : Nat} (hl : h.length = houN l) (hM : Good8 l M) (lr : {q : Option D // (∀ x, q = some x → M (askD h i) x) ∧ (q = none → ∀ x, ¬ M (askD h i) x)}) :
    ∃ xb : Bool, lr.1.getD (.bool false) = .bool xb ∧ (lr.1.isSome = true → xb = madeB l i h) := by
  obtain ⟨q, h1, h2⟩ := lr
  cases q with
  | none => exact ⟨false, rfl, fun h => (by cases h)⟩
  | some x =>
    obtain ⟨h', i', e0, e1, e2⟩ := hM _ _ (h1 x rfl)
    obtain ⟨rfl, rfl⟩ := ask_inj h4 hl e0 e1
    exact ⟨_, e2, fun _ => rfl⟩
theorem good8_set {l : Ldg} {M : D → D → Prop} {h : List Int} {i : Nat} (hl : h.length = houN l) (hM : Good8 l M) : Good8 l (setM M (askD h i) (.bool (madeB l i h))) := fun a c hh => by
  rcases hh with ⟨rfl, rfl⟩ | ⟨_, hh⟩
  · exact ⟨h, i, hl, rfl, rfl⟩
  · exact hM a c hh
theorem asked_lits {h : List Int} {i : Nat} (k : Nat) (hb : ∀ j, 0 ≤ h.getD j 0 ∧ h.getD j 0 ≤ 4) (hi : i < 1000) : ∃ ls, Tryz.prog.keyLits (k + 3) 124 [.int .i64 (h.getD 0 0), .int .i64 (h.getD 1 0), .int .i64 (h.getD 2 0), .int .i64 (h.getD 3 0), .int .i64 (i : Nat)] = some ls := by
  have h0 := zAz (n := h.getD 0 0) (by have := hb 0; omega)
  have h1 := zAz (n := h.getD 1 0) (by have := hb 1; omega)
  have h2 := zAz (n := h.getD 2 0) (by have := hb 2; omega)
  have h3 := zAz (n := h.getD 3 0) (by have := hb 3; omega)
  have h4 := zAz (n := (i : Int)) (by omega)
  have c1 : Tryz.prog.cellsOf 124 = 5 := by kernel_rfl
  have c2 : Tryz.prog.cellsOf 3 = 1 := by kernel_rfl
  have c3 : Tryz.prog.cellsOf 121 = 4 := by kernel_rfl
  generalize h.getD 0 0 = a at *
  generalize h.getD 1 0 = b at *
  generalize h.getD 2 0 = c at *
  generalize h.getD 3 0 = d at *
  simp only [Program.keyLits, Tryz.underlying124, Tryz.underlying121, Tryz.underlying3]
  simp [c1, c2, c3, h0, h1, h2, h3, h4, Program.keyLits, Tryz.underlying3, List.range_succ]
theorem asked_kv {h : List Int} {i : Nat} (hb : ∀ j, 0 ≤ h.getD j 0 ∧ h.getD j 0 ≤ 4) (hi : i < 1000) : KV Tryz.prog 124 (.agg [.int .i64 (h.getD 0 0), .int .i64 (h.getD 1 0), .int .i64 (h.getD 2 0), .int .i64 (h.getD 3 0), .int .i64 (i : Nat)].toArray) := by
  have c1 : Tryz.prog.cellsOf 124 = 5 := by kernel_rfl
  have hk : Tryz.prog.keyType 124 = true := by kernel_rfl
  have h1 : Nat.ble 2 Tryz.prog.types.size = true := by kernel_rfl
  have hs : ∃ k, Tryz.prog.types.size + 1 = k + 3 := ⟨Tryz.prog.types.size - 2, by have := Nat.le_of_ble_eq_true h1; omega⟩
  obtain ⟨k, hs⟩ := hs
  obtain ⟨ls, hl⟩ := asked_lits k hb hi
  generalize h.getD 0 0 = a at *
  generalize h.getD 1 0 = b at *
  generalize h.getD 2 0 = c at *
  generalize h.getD 3 0 = d at *
  unfold KV keyOf
  rw [Tryz.underlying124, hs]
  simp only [hk, Value.formed, Tryz.underlying124, c1, Value.cells]
  simp [hl]
def verdTo (l : Ldg) (i : Nat) : List Int := (List.range i).map fun (i : Nat) => verdB ((knownR l).1.map (madeB l i))
def verdX (l : Ldg) : List Int × Int := if (knownR l).2 ≠ 0 then ([], (knownR l).2) else (verdTo l l.dues.length, 0)
theorem verdTo_succ (l : Ldg) (i : Nat) : verdTo l (i + 1) = verdTo l i ++ [verdB ((knownR l).1.map (madeB l i))] := by unfold verdTo; rw [List.range_succ, List.map_append]; rfl
theorem verdTo_len (l : Ldg) (i : Nat) : (verdTo l i).length = i := by simp [verdTo]
theorem verd_all {l : Ldg} {i : Nat} (h : (knownR l).1.all (madeB l i) = true) : verdB ((knownR l).1.map (madeB l i)) = 1 := by unfold verdB; rw [List.all_map]; exact if_pos h
theorem verd_any {l : Ldg} {i : Nat} (h : (knownR l).1.all (madeB l i) = false) (h2 : (knownR l).1.any (madeB l i) = true) : verdB ((knownR l).1.map (madeB l i)) = 3 := by
  unfold verdB; rw [List.all_map, List.any_map]
  have e1 : (knownR l).1.all (id ∘ madeB l i) = false := h
  have e2 : (knownR l).1.any (id ∘ madeB l i) = true := h2
  rw [e1, e2]; rfl
theorem verd_none {l : Ldg} {i : Nat} (h : (knownR l).1.all (madeB l i) = false) (h2 : (knownR l).1.any (madeB l i) = false) : verdB ((knownR l).1.map (madeB l i)) = 2 := by
  unfold verdB; rw [List.all_map, List.any_map]
  have e1 : (knownR l).1.all (id ∘ madeB l i) = false := h
  have e2 : (knownR l).1.any (id ∘ madeB l i) = false := h2
  rw [e1, e2]; rfl
theorem zCE {l : Ldg} {i : Nat} {x : Int} (h : verdB ((knownR l).1.map (madeB l i)) = x) : (verdTo l i).map intE ++ [intE x] = (verdTo l (i + 1)).map intE := by rw [verdTo_succ, h, List.map_append]; rfl
theorem sz119 : Sz Tryz.prog 119 1 := (by kernel_rfl : (Tryz.prog.info? 119).map (·.size) = some 1)
theorem sz124 : Sz Tryz.prog 124 5 := (by kernel_rfl : (Tryz.prog.info? 124).map (·.size) = some 5)
theorem sz154 : Sz Tryz.prog 154 1 := (by kernel_rfl : (Tryz.prog.info? 154).map (·.size) = some 1)
theorem zr119 : (Tryz.prog.info? 119).map (·.zero) = some (some (.pointer none)) := by kernel_rfl
theorem zr124 : (Tryz.prog.info? 124).map (·.zero) = some (some (.agg #[(.int .i64 0), (.int .i64 0), (.int .i64 0), (.int .i64 0), (.int .i64 0)])) := by kernel_rfl
theorem bt124 : BT Tryz.prog 124 (.agg #[(.int .i64 0), (.int .i64 0), (.int .i64 0), (.int .i64 0), (.int .i64 0)]) (fun i => ([(0, 4), (4, 1)] : List (Nat × Nat))[i]?) := yM Tryz.underlying124 zr124 (by kernel_rfl)
theorem made_eff (l : Ldg) (L : Lok l) (b : Nat) (M : D → D → Prop) (hM : Good8 l M) (h : List Int) (hh : HsOK l h) (i : Nat) (hi : i < 1000) : EffAt Tryz.prog 62 [.d (.ptr (workC8 l b)), .d (askD h i)] [(1050, mapRes KS8 b M)] (X := {M // Good8 l M}) (fun _ => .d (.bool (madeB l i h))) (fun M => [(1050, mapRes KS8 b M.1)]) := by
 have hkv := asked_kv (i := i) (zEP (N := 0) hh.2) hi
 refine EffAt.of_awp Tryz.func62 rfl (by kernel_rfl) rfl fun Γ hn => ?_
 refine zC (zB ?_)
 refine stepW (zt 3 rfl rfl rfl (nb hn rfl) rfl rfl) fun b3 => ?_
 refine sq rfl rfl hn rfl (zF rfl rfl) ?_
 refine zE (zA (zC ?_))
 refine zz (zr (t := 3) 3 rfl (nb hn rfl) rfl rfl trivial) ?_
 refine z7 (W := fun b => True) fmo ?_
 refine d1q (i := 0) rfl (by kernel_rfl) (fun _ _ _ _ h => h) rfl rfl hn rfl (zG rfl rfl) ?_
 refine d1q (i := 1) rfl (by kernel_rfl) (fun _ _ _ _ h => h) rfl rfl hn rfl (yA rfl rfl) ?_
 refine d1q (i := 2) rfl (by kernel_rfl) (fun _ _ _ _ h => h) rfl rfl hn rfl (zL rfl rfl Tryz.underlying156 rfl sz154 rfl) ?_
 refine d1q (i := 3) rfl (by kernel_rfl) (fun _ _ _ _ h => h) rfl rfl hn rfl (zQ rfl rfl Tryz.underlying154 rfl seesFA) ?_
 refine d1q (i := 4) rfl (by kernel_rfl) (fun _ _ _ _ h => h) rfl rfl hn rfl (ze rfl rfl Tryz.underlying124 rfl sz124 rfl rfl seesFA) ?_
 refine zN ?_
 refine zj (i := 5) (by kernel_rfl) rfl (zA1 (id := 1050) (zd := (.bool false)) rfl rfl rfl (nb hn rfl) zCw Tryz.underlying154 zr4 rfl (.d rfl) rfl rfl (hkv) rfl) fun lr => ?_
 obtain ⟨xb, hx1, hx2⟩ := look8 L.hN.2.1 hh.1 hM lr
 rw [hx1]
 refine d2_of_d1 ?_
 refine d1q (i := 6) rfl (by kernel_rfl) (fun _ _ _ _ h => h) rfl rfl hn rfl (zG rfl rfl) ?_
 refine d1q (i := 7) rfl (by kernel_rfl) (fun _ _ _ _ h => h) rfl rfl hn rfl (zb rfl rfl rfl) ?_
 refine d1q (i := 8) rfl (by kernel_rfl) (fun _ _ _ _ h => h) rfl rfl hn rfl (zb rfl rfl rfl) ?_
 refine d1q (i := 9) rfl (by kernel_rfl) (fun _ _ _ _ h => h) rfl rfl hn rfl (zF rfl rfl) ?_
 refine d1q (i := 10) rfl (by kernel_rfl) (fun _ _ _ _ h => h) rfl rfl hn rfl (zF rfl rfl) ?_
 refine zN ?_
 refine zu (by kernel_rfl) ?_
 refine zA (zC (zC (zB ?_)))
 refine sq rfl rfl hn rfl (zG rfl rfl) ?_
 refine sq rfl rfl hn rfl (yE rfl rfl) ?_
 refine zE (zA ?_)
 refine yF (e := .normal) (ι := {M // Good8 l M}) (fun x => (5, true, .d (.bool (madeB l i h))) :: anys [19, 20, 21, 22, 23, 24, 18, 25, 26, 27, 28, 29, 30, 31, 32, 33]) (fun x => [(1050, mapRes KS8 b x.1)]) (fun hJ0 => ?_) ?_
 ·
  refine zR rfl (fun hb0 => ?_) (fun hb0 => ?_)
  ·
   refine zC (zB ?_)
   refine sq rfl rfl hn rfl (zG rfl rfl) ?_
   refine sq rfl rfl hn rfl (zL rfl rfl Tryz.underlying124 rfl sz121 rfl) ?_
   refine sq rfl rfl hn rfl (ze rfl rfl Tryz.underlying121 rfl sz121 rfl rfl seesF0) ?_
   refine sq rfl rfl hn rfl (zL rfl rfl Tryz.underlying124 rfl sz3 rfl) ?_
   refine sq rfl rfl hn rfl (zQ rfl rfl Tryz.underlying3 rfl seesF0) ?_
   refine stepW (s_call [] (fun _ => best8_ok l (houN l) h (L.hok hh.2) (i : Int) b) rfl (zK rfl) rfl (nb hn rfl) (fun _ => trivial) rfl rfl (.refl _)) fun _ => ?_
   refine sq rfl rfl hn rfl (zG rfl rfl) ?_
   refine sq rfl rfl hn rfl (zb rfl rfl rfl) ?_
   refine sq rfl rfl hn rfl (zb rfl rfl rfl) ?_
   refine sq rfl rfl hn rfl (zb rfl rfl rfl) ?_
   refine sq rfl rfl hn rfl (zF rfl rfl) ?_
   refine zE (zA ?_)
   refine z7 (W := fun b => True) fmo ?_
   refine d1q (i := 0) rfl (by kernel_rfl) (fun _ _ _ _ h => h) rfl rfl hn rfl (zG rfl rfl) ?_
   refine d1q (i := 1) rfl (by kernel_rfl) (fun _ _ _ _ h => h) rfl rfl hn rfl (yA rfl rfl) ?_
   refine d1q (i := 2) rfl (by kernel_rfl) (fun _ _ _ _ h => h) rfl rfl hn rfl (zL rfl rfl Tryz.underlying156 rfl sz154 rfl) ?_
   refine d1q (i := 3) rfl (by kernel_rfl) (fun _ _ _ _ h => h) rfl rfl hn rfl (zQ rfl rfl Tryz.underlying154 rfl seesFA) ?_
   refine d1q (i := 4) rfl (by kernel_rfl) (fun _ _ _ _ h => h) rfl rfl hn rfl (ze rfl rfl Tryz.underlying124 rfl sz124 rfl rfl seesFA) ?_
   refine d1q (i := 5) rfl (by kernel_rfl) (fun _ _ _ _ h => h) rfl rfl hn rfl (zG rfl rfl) ?_
   refine zN ?_
   refine zj (i := 6) (by kernel_rfl) rfl (kR (id := 1050) rfl rfl rfl zCw Tryz.underlying154 (.d rfl) rfl rfl (hkv) rfl rfl rfl rfl trivial) fun _ => ?_
   refine d2_of_d1 (zN ?_)
   refine zu (by kernel_rfl) ?_
   exact aend_join_on hJ0 ⟨setM M (askD h i) (.bool (madeB l i h)), good8_set hh.1 hM⟩ ⟨.inl rfl, zI _⟩ ⟨.inl rfl, trivial⟩ (by repeat (first | exact kr _ | refine kc rfl ?_)) (by repeat (first | exact kr _ | refine kc rfl ?_))
  ·
   have hxm : xb = madeB l i h := hx2 (notF hb0)
   refine zT ?_
   exact aend_join_on hJ0 ⟨M, hM⟩ ⟨.inl (congrArg (fun z : Bool => some (true, TV.d (.bool z))) hxm), zI _⟩ ⟨.inl rfl, trivial⟩ (by repeat (first | exact kr _ | refine kc rfl ?_)) (by repeat (first | exact kr _ | refine kc rfl ?_))
 ·
  rintro ⟨M2, hM2⟩
  dsimp only
  refine zA (zC (zB ?_))
  refine sq rfl rfl hn rfl (zG rfl rfl) ?_
  refine sq rfl rfl hn rfl (zF rfl rfl) ?_
  refine zE (zA (zP ?_))
  exact ret_E (.inl rfl) ⟨M2, hM2⟩ (yD rfl (.tmp rfl)) ⟨rfl, trivial⟩
theorem zC3 (l : Ldg) (L : Lok l) (b : Nat) (M : D → D → Prop) (hM : Good8 l M) (h : List Int) (hh : HsOK l h) (i : Nat) (hi : i < 1000) : EffAt Tryz.prog 61 [.d (handD h), .d (.ptr [.ptr (workC8 l b)]), .d (.ptr [.int .i64 (i : Nat)])] [(1050, mapRes KS8 b M)] (X := {M // Good8 l M}) (fun _ => .d (.bool (madeB l i h))) (fun M => [(1050, mapRes KS8 b M.1)]) := by
 refine EffAt.of_awp Tryz.func61 rfl (by kernel_rfl) rfl fun Γ hn => ?_
 refine zC (zB ?_)
 refine stepW (zt 3 rfl rfl rfl (nb hn rfl) rfl rfl) fun b3 => ?_
 refine sq rfl rfl hn rfl (zF rfl rfl) ?_
 refine zE (zA (zC (zB ?_)))
 refine sq rfl rfl hn rfl (zQ rfl rfl Tryz.underlying119 rfl seesF0) ?_
 refine sq rfl rfl hn rfl (zZ rfl rfl (id := 3) rfl Tryz.underlying121 rfl sz121 rfl rfl sees0) ?_
 refine sq rfl rfl hn rfl (zQ rfl rfl Tryz.underlying3 rfl seesF0) ?_
 refine sq rfl rfl hn rfl (zv rfl bt124 rfl rfl rfl rfl rfl) ?_
 refine stepW (s_callE (made_eff l L b M hM h hh i hi) rfl rfl rfl (nb hn rfl) (.d rfl) rfl (.refl _) ⟨rfl, trivial⟩ (fun _ => rfl) (fun _ _ => trivial)) fun ⟨M2, hM2⟩ => ?_
 refine sq rfl rfl hn rfl (zF rfl rfl) ?_
 refine zE (zA (zP ?_))
 exact ret_E (.inl rfl) ⟨M2, hM2⟩ (yD rfl (.tmp rfl)) ⟨rfl, trivial⟩
theorem IndexH_eff (l : Ldg) (b : Nat) (hs : List (List Int)) (hl5 : hs.length ≤ 1000) (p : List Int → Bool) (g : FuncId) (ca : List D) (hp : ∀ h ∈ hs, ∀ M, Good8 l M → EffAt Tryz.prog g (.d (handD h) :: ca.map .d) [(1050, mapRes KS8 b M)] (X := {M // Good8 l M}) (fun _ => .d (.bool (p h))) (fun M => [(1050, mapRes KS8 b M.1)])) (M : D → D → Prop) (hM : Good8 l M) : EffAt Tryz.prog 92 [.d (handsD hs), .d (.fn (.func g) [] ca)] [(1050, mapRes KS8 b M)] (X := {M // Good8 l M}) (fun _ => .d (.int .i64 (idxOf p hs))) (fun M => [(1050, mapRes KS8 b M.1)]) := by
 refine EffAt.of_awp Tryz.func92 rfl (by kernel_rfl) rfl fun Γ hn => ?_
 refine zC (zB ?_)
 refine sq rfl rfl hn rfl (zF rfl rfl) ?_
 refine zE (zA (zC (zC (zB ?_))))
 refine sq rfl rfl hn rfl (zG rfl rfl) ?_
 refine sq rfl rfl hn rfl (zy rfl rfl Tryz.underlying116) ?_
 refine sq rfl rfl hn rfl (zG rfl rfl) ?_
 refine zE (zA (zS ?_))
 refine awp_loop_on (ι := { x : Nat × (D → D → Prop) // x.1 ≤ hs.length ∧ (hs.take x.1).all (fun x => !p x) = true ∧ Good8 l x.2 }) (fun x => (8, true, .d (.int .i64 (x.1.1 : Nat))) :: anys [9, 10, 5, 11, 12, 13, 14, 15, 16, 18]) (fun x => [(1050, mapRes KS8 b x.1.2)]) (fun x => hs.length - x.1.1) ⟨(0, M), by simp, by simp, hM⟩ ⟨.inl rfl, zI _⟩ ⟨.inl rfl, trivial⟩ ?_
 rintro ⟨⟨i, M1⟩, hi, hall, hM1⟩
 dsimp only
 dsimp only at hi hall hM1
 refine zC (zB ?_)
 refine sq rfl rfl hn rfl (yL rfl rfl rfl) ?_
 refine zE (zA (zC ?_))
 refine zR rfl (fun hb0 => ?_) (fun hb0 => ?_)
 ·
  have hlt : i < hs.length := by simpa using hb0
  obtain ⟨x, hx⟩ := z8 hlt
  refine zT (zA (zC (zS (zC (zB ?_)))))
  refine sq rfl rfl hn rfl (zG rfl rfl) ?_
  refine sq rfl rfl hn rfl (zF rfl rfl) ?_
  refine zE (zA (zC (zB ?_)))
  refine sq rfl rfl hn rfl (zG rfl rfl) ?_
  refine sq rfl rfl hn rfl (zG rfl rfl) ?_
  refine sq rfl rfl hn rfl (zG rfl rfl) ?_
  refine sq rfl rfl hn rfl (q_index (i := i) rfl rfl rfl Tryz.underlying116 sz121 rfl (mget hx)) ?_
  refine sq rfl rfl hn rfl (ze rfl rfl Tryz.underlying121 rfl sz121 rfl rfl seesF0) ?_
  refine stepW (s_callE (hp x (List.mem_of_getElem? hx) M1 hM1) rfl rfl rfl (nb hn rfl) (.d rfl) rfl (.refl _) ⟨rfl, trivial⟩ (fun _ => rfl) (fun _ _ => trivial)) fun ⟨M2, hM2⟩ => ?_
  refine zE (zA ?_)
  refine zR rfl (fun hb1 => ?_) (fun hb1 => ?_)
  ·
   have hnt : p x = true := hb1
   refine zC (zB ?_)
   refine sq rfl rfl hn rfl (zG rfl rfl) ?_
   refine sq rfl rfl hn rfl (zF rfl rfl) ?_
   refine zE (zA (zP (za (zM (zM (za (zM ?_)))))))
   exact ret_E (.inl rfl) ⟨M2, hM2⟩ ((yD rfl (.tmp rfl)).eq (by rw [yv hx hall hnt])) ⟨rfl, trivial⟩
  ·
   have hnf : p x = false := hb1
   refine zT (zX (zA (zB ?_)))
   refine sq rfl rfl hn rfl (z6 rfl rfl rfl (r := ((i + 1 : Nat) : Int)) (i64w (by omega) (by omega))) ?_
   refine sq rfl rfl hn rfl (zG rfl rfl) ?_
   refine zE ?_
   exact zV ⟨(i + 1, M2), by omega, yH hx hall (by rw [hnf]; rfl), hM2⟩ ⟨.inl rfl, zI _⟩ ⟨.inl rfl, trivial⟩ (by simp only; omega) (by repeat (first | exact kr _ | refine kc rfl ?_)) (by repeat (first | exact kr _ | refine kc rfl ?_))
 ·
  have hi2 : i = hs.length := by simp only [List.length_map, decide_eq_false_iff_not] at hb0; omega
  refine zw (zJ (zJ (zU (zA (zC (zB ?_))))))
  refine sq rfl rfl hn rfl (zF rfl rfl) ?_
  refine zE (zA (zP ?_))
  exact ret_E (.inl rfl) ⟨M1, hM1⟩ ((yD rfl (.tmp rfl)).eq (by subst hi2; rw [List.take_length] at hall; rw [yi hall]; rfl)) ⟨rfl, trivial⟩
theorem zAm (l : Ldg) (b : Nat) (hs : List (List Int)) (hl5 : hs.length ≤ 1000) (p : List Int → Bool) (g : FuncId) (ca : List D) (hp : ∀ h ∈ hs, ∀ M, Good8 l M → EffAt Tryz.prog g (.d (handD h) :: ca.map .d) [(1050, mapRes KS8 b M)] (X := {M // Good8 l M}) (fun _ => .d (.bool (p h))) (fun M => [(1050, mapRes KS8 b M.1)])) (M : D → D → Prop) (hM : Good8 l M) : EffAt Tryz.prog 64 [.d (handsD hs), .d (.fn (.func g) [] ca)] [(1050, mapRes KS8 b M)] (X := {M // Good8 l M}) (fun _ => .d (.bool (hs.any p))) (fun M => [(1050, mapRes KS8 b M.1)]) := by
 refine EffAt.of_awp Tryz.func64 rfl (by kernel_rfl) rfl fun Γ hn => ?_
 refine zC (zB ?_)
 refine sq rfl rfl hn rfl (zF rfl rfl) ?_
 refine zE (zA (zC (zB ?_)))
 refine sq rfl rfl hn rfl (zG rfl rfl) ?_
 refine sq rfl rfl hn rfl (zG rfl rfl) ?_
 refine stepW (s_callE (IndexH_eff l b hs hl5 p g ca hp M hM) rfl rfl rfl (nb hn rfl) (.d rfl) rfl (.refl _) ⟨rfl, trivial⟩ (fun _ => rfl) (fun _ _ => trivial)) fun ⟨M2, hM2⟩ => ?_
 refine sq rfl rfl hn rfl (zBy rfl rfl rfl) ?_
 refine sq rfl rfl hn rfl (zF rfl rfl) ?_
 refine zE (zA (zP ?_))
 exact ret_E (.inl rfl) ⟨M2, hM2⟩ ((yD rfl (.tmp rfl)).eq (by rw [yc])) ⟨rfl, trivial⟩
theorem allH1_eff (l : Ldg) (b : Nat) (h : List Int) (q : Bool) (g : FuncId) (ca : List D) (M : D → D → Prop) (hp : EffAt Tryz.prog g (.d (handD h) :: ca.map .d) [(1050, mapRes KS8 b M)] (X := {M // Good8 l M}) (fun _ => .d (.bool q)) (fun M => [(1050, mapRes KS8 b M.1)])) : EffAt Tryz.prog 91 [.d (handD h), .d (.ptr [.fn (.func g) [] ca])] [(1050, mapRes KS8 b M)] (X := {M // Good8 l M}) (fun _ => .d (.bool (!q))) (fun M => [(1050, mapRes KS8 b M.1)]) := by
 refine EffAt.of_awp Tryz.func91 rfl (by kernel_rfl) rfl fun Γ hn => ?_
 refine zC (zB ?_)
 refine stepW (zt 2 rfl rfl rfl (nb hn rfl) rfl rfl) fun b2 => ?_
 refine sq rfl rfl hn rfl (zF rfl rfl) ?_
 refine zE (zA (zC (zB ?_)))
 refine sq rfl rfl hn rfl (zQ rfl rfl Tryz.underlying125 rfl seesF0) ?_
 refine sq rfl rfl hn rfl (zZ rfl rfl (id := 2) rfl Tryz.underlying121 rfl sz121 rfl rfl sees0) ?_
 refine stepW (s_callE (hp) rfl rfl rfl (nb hn rfl) (.d rfl) rfl (.refl _) ⟨rfl, trivial⟩ (fun _ => rfl) (fun _ _ => trivial)) fun ⟨M2, hM2⟩ => ?_
 refine sq rfl rfl hn rfl (yE rfl rfl) ?_
 refine sq rfl rfl hn rfl (zF rfl rfl) ?_
 refine zE (zA (zP ?_))
 exact ret_E (.inl rfl) ⟨M2, hM2⟩ (yD rfl (.tmp rfl)) ⟨rfl, trivial⟩
theorem allH_eff (l : Ldg) (b : Nat) (hs : List (List Int)) (hl5 : hs.length ≤ 1000) (p : List Int → Bool) (g : FuncId) (ca : List D) (hp : ∀ h ∈ hs, ∀ M, Good8 l M → EffAt Tryz.prog g (.d (handD h) :: ca.map .d) [(1050, mapRes KS8 b M)] (X := {M // Good8 l M}) (fun _ => .d (.bool (p h))) (fun M => [(1050, mapRes KS8 b M.1)])) (M : D → D → Prop) (hM : Good8 l M) : EffAt Tryz.prog 63 [.d (handsD hs), .d (.fn (.func g) [] ca)] [(1050, mapRes KS8 b M)] (X := {M // Good8 l M}) (fun _ => .d (.bool (hs.all p))) (fun M => [(1050, mapRes KS8 b M.1)]) := by
 refine EffAt.of_awp Tryz.func63 rfl (by kernel_rfl) rfl fun Γ hn => ?_
 refine zC (zB ?_)
 refine stepW (zt 3 rfl rfl rfl (nb hn rfl) rfl rfl) fun b3 => ?_
 refine sq rfl rfl hn rfl (zF rfl rfl) ?_
 refine zE (zA (zC (zB ?_)))
 refine sq rfl rfl hn rfl (zG rfl rfl) ?_
 refine y9 (zr (t := 3) 3 rfl (nb hn rfl) rfl rfl trivial) ?_
 refine sq rfl rfl hn rfl (yG rfl rfl rfl) ?_
 refine stepW (s_callE (zAm l b hs hl5 (fun x => !p x) 91 [.ptr [.fn (.func g) [] ca]] (fun h hh M hM => allH1_eff l b h (p h) g ca M (hp h hh M hM)) M hM) rfl rfl rfl (nb hn rfl) (.d rfl) rfl (.refl _) ⟨rfl, trivial⟩ (fun _ => rfl) (fun _ _ => trivial)) fun ⟨M2, hM2⟩ => ?_
 refine sq rfl rfl hn rfl (yE rfl rfl) ?_
 refine sq rfl rfl hn rfl (zF rfl rfl) ?_
 refine zE (zA (zP ?_))
 exact ret_E (.inl rfl) ⟨M2, hM2⟩ ((yD rfl (.tmp rfl)).eq (by rw [List.all_eq_not_any_not])) ⟨rfl, trivial⟩
theorem zAQ (l : Ldg) : PureAt Tryz.prog 21 [ldgD l] (.tup [ints (verdX l).1, .int .i64 (verdX l).2]) := by
 have hkb := zDy (l := l)
 refine PureAt.of_awp Tryz.func21 rfl (by kernel_rfl) (Nat.le_of_ble_eq_true rfl) fun Γ hn hl => ?_
 refine zC (zB ?_)
 refine stepW (zt 1 rfl rfl rfl (nb hn rfl) rfl rfl) fun b1 => ?_
 refine sq rfl rfl hn rfl (zF rfl rfl) ?_
 refine sq rfl rfl hn rfl (zF rfl rfl) ?_
 refine zE (zA (zC ?_))
 refine zz (zr (t := 1) 1 rfl (nb hn rfl) rfl rfl trivial) ?_
 refine zB ?_
 refine sq rfl rfl hn rfl (ze rfl rfl Tryz.underlying50 rfl sz50 rfl rfl seesF0) ?_
 refine stepW (s_call [] (fun _ => known_ok l) rfl (zK rfl) rfl (nb hn rfl) (fun _ => trivial) rfl rfl (.refl _)) fun _ => ?_
 refine sq rfl rfl hn rfl (zG rfl rfl) ?_
 refine sq rfl rfl hn rfl (zb rfl rfl rfl) ?_
 refine sq rfl rfl hn rfl (zb rfl rfl rfl) ?_
 refine sq rfl rfl hn rfl (zF rfl rfl) ?_
 refine sq rfl rfl hn rfl (zF rfl rfl) ?_
 refine zE (zA (zC (zC (zB ?_))))
 refine sq rfl rfl hn rfl (zG rfl rfl) ?_
 refine sq rfl rfl hn rfl (y7 rfl rfl rfl) ?_
 refine zE (zA ?_)
 refine zR rfl (fun hb0 => ?_) (fun hb0 => ?_)
 ·
  have hk0 : (knownR l).2 ≠ 0 := by simpa using hb0
  refine zC (zB ?_)
  refine sq rfl rfl hn rfl (zG rfl rfl) ?_
  refine sq rfl rfl hn rfl (zF rfl rfl) ?_
  refine sq rfl rfl hn rfl (zF rfl rfl) ?_
  refine zE (zA (zP (zM ?_)))
  refine zDS (zCx (.inl rfl) hl rfl (.tmp rfl) (.tmp rfl)) ?_
  rw [show verdX l = ([], (knownR l).2) from if_pos hk0]; exact .tup (.cons (.nil 1) (.refl _))
 ·
  have hk0 : (knownR l).2 = 0 := by simpa using hb0
  have hc0 : checkL l = 0 := by (by_cases hc : checkL l = 0; exact hc; (rw [zBW hc] at hk0; exact hk0))
  have L := zCF hc0
  have hdl := L.dl
  refine zT (zA (zC (zB ?_)))
  refine sq rfl rfl hn rfl (ze rfl rfl Tryz.underlying50 rfl sz50 rfl rfl seesF0) ?_
  refine stepW (s_callE (work8_eff l) rfl rfl rfl (nb hn rfl) (.d rfl) rfl (.refl _) trivial (fun _ => rfl) (fun _ _ => trivial)) fun bw => ?_
  refine stepW (zi 6 rfl rfl rfl (nb hn rfl) zr119 rfl rfl) fun b6 => ?_
  refine stepW (s_store1 rfl rfl rfl rfl rfl rfl (id := 6) rfl sz119 (Nat.le_of_ble_eq_true rfl) rfl trivial) fun _ => ?_
  refine zE (zA (zC ?_))
  refine zz (zr (t := 6) 6 rfl (nb hn rfl) rfl rfl trivial) ?_
  refine zB ?_
  refine sq rfl rfl hn rfl (zF rfl rfl) ?_
  refine zE (zA (zC (zC ?_)))
  refine zz (g_nil (t := 7) (id := 7) 3 1 rfl (nb hn rfl)) ?_
  refine zB ?_
  refine sq rfl rfl hn rfl (zL rfl rfl Tryz.underlying50 rfl sz48 rfl) ?_
  refine sq rfl rfl hn rfl (zQ rfl rfl Tryz.underlying48 rfl seesF0) ?_
  refine sq rfl rfl hn rfl (zy rfl rfl Tryz.underlying48) ?_
  refine sq rfl rfl hn rfl (zG rfl rfl) ?_
  refine zE (zA (zS ?_))
  refine awp_loop_on (ι := {x : Nat × Value × (D → D → Prop) // x.1 ≤ l.dues.length ∧ Good8 l x.2.2}) (fun x => (7, true, .val x.1.2.1) :: (23, true, .d (.int .i64 (x.1.1 : Nat))) :: anys [24, 25, 8, 26, 9, 31, 32, 33, 30, 34, 35, 36, 38, 39, 40, 37, 41, 42, 43, 27, 28, 29, 44]) (fun x => (7, .row x.1.2.1 3 1 ((verdTo l x.1.1).map intE)) :: (1050, mapRes KS8 bw x.1.2.2) :: gones [8]) (fun x => l.dues.length - x.1.1) ⟨(0, _, _), Nat.zero_le _, good8_none l⟩ ⟨.inl rfl, .inl rfl, zI _⟩ ⟨.inl rfl, .inl rfl, zW _⟩ ?_
  rintro ⟨⟨i, vv, M1⟩, hi, hM1⟩
  dsimp only
  dsimp only at hi hM1
  have hvl := verdTo_len l i
  refine zC (zB ?_)
  refine sq rfl rfl hn rfl (yL rfl rfl rfl) ?_
  refine zE (zA (zC ?_))
  refine zR rfl (fun hb1 => ?_) (fun hb1 => ?_)
  ·
   have hil : i < l.dues.length := by simpa using hb1
   refine zT (zA (zC (zS (zC (zB ?_)))))
   refine sq rfl rfl hn rfl (zG rfl rfl) ?_
   refine stepW (zi 8 rfl rfl rfl (nb hn rfl) zr3 rfl rfl) fun b8 => ?_
   refine stepW (s_store1 rfl rfl rfl rfl rfl rfl (id := 8) rfl sz3 (Nat.le_of_ble_eq_true rfl) rfl trivial) fun _ => ?_
   refine zE (zA (zC ?_))
   refine zz (zr (t := 8) 8 rfl (nb hn rfl) rfl rfl trivial) ?_
   refine zB ?_
   refine sq rfl rfl hn rfl (yG rfl rfl rfl) ?_
   refine sq rfl rfl hn rfl (zF rfl rfl) ?_
   refine zE (zA (zS (zC (zB ?_))))
   refine sq rfl rfl hn rfl (zG rfl rfl) ?_
   refine sq rfl rfl hn rfl (zG rfl rfl) ?_
   refine stepW (s_callE (allH_eff l bw (knownR l).1 (by omega) (madeB l i) 61 [.ptr [.ptr (workC8 l bw)], .ptr [.int .i64 (i : Nat)]] (fun h hh M hM => zC3 l L bw M hM h (hkb.2 h hh).2 i (by omega)) M1 hM1) rfl rfl rfl (nb hn rfl) (.d rfl) rfl (.refl _) ⟨rfl, trivial⟩ (fun _ => rfl) (fun _ _ => trivial)) fun ⟨M2, hM2⟩ => ?_
   refine sq rfl rfl hn rfl (zF rfl rfl) ?_
   refine zE (zA ?_)
   refine yF (e := .normal) (ι := Value × {M // Good8 l M}) (fun x => (7, true, .val x.1) :: anys [34, 35, 36, 38, 39, 40, 37, 41, 42, 43, 27, 28, 29]) (fun x => [(7, .row x.1 3 1 ((verdTo l (i + 1)).map intE)), (1050, mapRes KS8 bw x.2.1)]) (fun hJ2 => ?_) ?_
   ·
    refine zR rfl (fun hb2 => ?_) (fun hb2 => ?_)
    ·
     have ht : (knownR l).1.all (madeB l i) = true := hb2
     refine zB ?_
     refine sq rfl rfl hn rfl (zG rfl rfl) ?_
     refine stepW (zh rfl rfl rfl (nb hn rfl) Tryz.underlying22 sz3 zr3 rfl rfl rfl (show _ = [.d (.int .i64 0)] from by kernel_rfl) (by kernel_rfl) rfl rfl rfl rfl rfl) fun _ => ?_
     refine stepW (s_append (id := 7) rfl rfl rfl (nb hn rfl) elt22 trivial rfl rfl rfl (by simp [chunk]; omega) (by simp [chunk]; omega) (fun b hb => trivial)) fun v36 => ?_
     refine sq rfl rfl hn rfl (zF rfl rfl) ?_
     refine zE ?_
     exact aend_join_on hJ2 (v36, ⟨M2, hM2⟩) ⟨.inl rfl, zI _⟩ ⟨.inl (congrArg (fun z => some (Res.row v36 3 1 z)) (zCE (verd_all ht))), .inl rfl, trivial⟩ (by repeat (first | exact kr _ | refine kc rfl ?_)) (by repeat (first | exact kr _ | refine kc rfl ?_))
    ·
     have hf : (knownR l).1.all (madeB l i) = false := hb2
     refine zC (zB ?_)
     refine sq rfl rfl hn rfl (zG rfl rfl) ?_
     refine sq rfl rfl hn rfl (zG rfl rfl) ?_
     refine stepW (s_callE (zAm l bw (knownR l).1 (by omega) (madeB l i) 61 [.ptr [.ptr (workC8 l bw)], .ptr [.int .i64 (i : Nat)]] (fun h hh M hM => zC3 l L bw M hM h (hkb.2 h hh).2 i (by omega)) M2 hM2) rfl rfl rfl (nb hn rfl) (.d rfl) rfl (.refl _) ⟨rfl, trivial⟩ (fun _ => rfl) (fun _ _ => trivial)) fun ⟨M4, hM4⟩ => ?_
     refine sq rfl rfl hn rfl (zF rfl rfl) ?_
     refine zE (zA ?_)
     refine zR rfl (fun hb3 => ?_) (fun hb3 => ?_)
     ·
      have ht : (knownR l).1.any (madeB l i) = true := hb3
      refine zB ?_
      refine sq rfl rfl hn rfl (zG rfl rfl) ?_
      refine stepW (zh rfl rfl rfl (nb hn rfl) Tryz.underlying22 sz3 zr3 rfl rfl rfl (show _ = [.d (.int .i64 0)] from by kernel_rfl) (by kernel_rfl) rfl rfl rfl rfl rfl) fun _ => ?_
      refine stepW (s_append (id := 7) rfl rfl rfl (nb hn rfl) elt22 trivial rfl rfl rfl (by simp [chunk]; omega) (by simp [chunk]; omega) (fun b hb => trivial)) fun v43 => ?_
      refine sq rfl rfl hn rfl (zF rfl rfl) ?_
      refine zE ?_
      exact aend_join_on hJ2 (v43, ⟨M4, hM4⟩) ⟨.inl rfl, zI _⟩ ⟨.inl (congrArg (fun z => some (Res.row v43 3 1 z)) (zCE (verd_any hf ht))), .inl rfl, trivial⟩ (by repeat (first | exact kr _ | refine kc rfl ?_)) (by repeat (first | exact kr _ | refine kc rfl ?_))
     ·
      have hf2 : (knownR l).1.any (madeB l i) = false := hb3
      refine zB ?_
      refine sq rfl rfl hn rfl (zG rfl rfl) ?_
      refine stepW (zh rfl rfl rfl (nb hn rfl) Tryz.underlying22 sz3 zr3 rfl rfl rfl (show _ = [.d (.int .i64 0)] from by kernel_rfl) (by kernel_rfl) rfl rfl rfl rfl rfl) fun _ => ?_
      refine stepW (s_append (id := 7) rfl rfl rfl (nb hn rfl) elt22 trivial rfl rfl rfl (by simp [chunk]; omega) (by simp [chunk]; omega) (fun b hb => trivial)) fun v29 => ?_
      refine sq rfl rfl hn rfl (zF rfl rfl) ?_
      refine zE ?_
      exact aend_join_on hJ2 (v29, ⟨M4, hM4⟩) ⟨.inl rfl, zI _⟩ ⟨.inl (congrArg (fun z => some (Res.row v29 3 1 z)) (zCE (verd_none hf hf2))), .inl rfl, trivial⟩ (by repeat (first | exact kr _ | refine kc rfl ?_)) (by repeat (first | exact kr _ | refine kc rfl ?_))
   ·
    rintro ⟨v2, M3, hM3⟩
    dsimp only
    refine zX (zX (zA (zB ?_)))
    refine sq rfl rfl hn rfl (z6 rfl rfl rfl (r := ((i + 1 : Nat) : Int)) (i64w (by omega) (by omega))) ?_
    refine sq rfl rfl hn rfl (zG rfl rfl) ?_
    refine zE ?_
    exact zV ⟨(i + 1, v2, M3), by omega, hM3⟩ ⟨.inl rfl, .inl rfl, zI _⟩ ⟨.inl rfl, .inl rfl, zW _⟩ (by simp only; omega) (by repeat (first | exact kr _ | refine kc rfl ?_)) (by repeat (first | exact kr _ | refine kc rfl ?_))
  ·
   obtain rfl : i = l.dues.length := by simp at hb1; omega
   refine zw (zJ (zJ (zU (zA (zC (zB ?_))))))
   refine sq rfl rfl hn rfl (zG rfl rfl) ?_
   refine sq rfl rfl hn rfl (zF rfl rfl) ?_
   refine sq rfl rfl hn rfl (zF rfl rfl) ?_
   refine zE (zA (zP ?_))
   refine kP (g_row (t := 2) (id := 7) rfl rfl) ?_
   refine zp (zCx (.inl rfl) hl rfl (.tmp rfl) (.tmp rfl)) ?_
   rw [show verdX l = (verdTo l l.dues.length, 0) from if_neg (by simpa using hk0)]
end Go.Proofs.YtaokpncjemkhcaaGreat
namespace Go.Proofs.YtaokpncjemkhcaaGreat
open Go.RowKit
set_option maxRecDepth 20000
set_option linter.all false
theorem zAA {l : List Bool} : ∀ c ∈ l.map boolE, c.length = 1 := fun c hc => by obtain ⟨x, _, rfl⟩ := List.mem_map.1 hc; rfl
theorem zr50 : (Tryz.prog.info? 50).map (·.zero) = some (some (.agg #[(.int .i64 0), (.slice none 0 0), (.slice none 0 0), (.slice none 0 0), (.int .i64 0), (.slice none 0 0), (.slice none 0 0)])) := by kernel_rfl
theorem elt30 : ElT Tryz.prog 30 4 1 1 := zAt Tryz.underlying30 (z := (.bool false)) (by kernel_rfl) rfl (by decide)
end Go.Proofs.YtaokpncjemkhcaaGreat
namespace Go.Proofs.YtaokpncjemkhcaaGreat
open Go.RowKit
set_option maxRecDepth 20000
set_option linter.all false
theorem known_hs {l : Ldg} : ∀ h ∈ (knownR l).1, HsOK l h := fun h hh => ((zDy (l := l)).2 h hh).2
end Go.Proofs.YtaokpncjemkhcaaGreat
namespace Go.Proofs.YtaokpncjemkhcaaGreat
open Go.RowKit
set_option maxRecDepth 20000
set_option linter.all false
theorem zBe {Γ : Cx} {P : Program} {σ : St} {ops : Array Oper} {o : Oper} {W : Nat → Prop} {x y : Operand} {t e : TypeId} {sz bytes id dt : Nat} {fs : List (List D)} (h : o.op = .call { callee := .builtin .append, args := #[x, y], argTypes := #[t, t] })
    (hg : o.guard = none) (hd : o.dst = some dt) (hn : Nat.blt dt Γ.n = true) (hT : ElT P t e sz bytes)
    (hx : σ.ev x = some (true, .d .nil)) (hy : σ.ev y = some (true, .d (.slice sz fs)))
    (hb : (0 + fs.length) * bytes ≤ 140737488355328) (h63 : 0 + fs.length ≤ 9223372036854775807) :
    StepW Γ P ops σ o W fun v' => (σ.put dt true (.val v')).rput id (.row v' e sz fs) := fun a w F hs K Q hK => by
  rw [if_pos (yB hg a)]
  have hx' : a.eval x = .slice none 0 0 := hs.ev hx
  have hu := hs.ev hy
  have hrow : RowOK F w Γ.own (.slice none 0 0) e sz [] := .inl ⟨rfl, rfl⟩
  obtain ⟨v', w', F', hrun, hrow', hcase⟩ := zCR (ty := o.type) hT hs.fcell (fun b hb => .inl (Nat.le_trans hs.hsize hb)) hrow hu hb h63
  have hex : (execOp a.eval o).run P w = .ok (.value v') w' := by
    simp [execOp, h, resolve, invoke, builtin, hx', hrun]
  unfold Oper.wp
  rw [hex]
  show K (a.put o.dst _) _
  rw [hd]
  have hfin : RS Γ (σ.rput id (.row v' e sz fs)) a w' F' := by
    rcases hcase with ⟨e1, hgr, hnew⟩ | ⟨e1, hgr⟩
    · exact (hs.grow hgr).rput hrow' (fun b hb' => by rw [Res.has, e1] at hb'; simp [Value.ownBlock] at hb')
    · refine (hs.grow hgr).rput hrow' (fun b hb' j r' _ hj e2 => ?_)
      rw [Res.has, e1] at hb'
      cases hb'
      exact Nat.lt_irrefl _ (kI (hs.rs j r' hj) e2)
  have hg2 : ∃ but, Grow F F' w w' but ∧ ∀ b, but = some b → W b := by
    rcases hcase with ⟨_, hgr, _⟩ | ⟨_, hgr⟩
    · exact ⟨_, hgr, fun _ e => by simp [Value.ownBlock] at e⟩
    · exact ⟨_, hgr, fun _ e => by cases e⟩
  obtain ⟨but, hg2, hg3⟩ := hg2
  exact hK v' _ _ F' (hfin.put (yP hn) (fun _ => rfl) (fun h => by cases h)) hg2.ext hg2.size (hg2.agree hg3)
theorem zCr {α β : Type} {l : List α} {f : α → β} {i : Nat} {x : α} (h : l[i]? = some x) : (l.take i).map f ++ [f x] = (l.take (i + 1)).map f := by rw [List.take_add_one, h]; simp
def handedR (N : Nat) (ws : List Nat) : List Int := (List.range N).map fun i => ((wordN ws i % 5 : Nat) : Int)
theorem handed_len {N : Nat} {ws : List Nat} : (handedR N ws).length = N := by simp [handedR]
theorem handed_succ {N : Nat} {ws : List Nat} : (handedR N ws).map intE ++ [intE ((wordN ws N % 5 : Nat) : Int)] = (handedR (N + 1) ws).map intE := by
  unfold handedR; rw [List.range_succ]; simp
theorem word_none {ws : List Nat} {i : Nat} (h : ws.length = 0) : (0 : Int) = ((wordN ws i % 5 : Nat) : Int) := by
  unfold wordN; rw [h]; rfl
theorem word_some {ws : List Nat} {i w : Nat} (h : 0 < ws.length) (hw : ws[i % ws.length]? = some w) : ((w % 5 : Nat) : Int) = ((wordN ws i % 5 : Nat) : Int) := by
  have e : ((ws.length : Int) == 0) = false := by simp; intro h2; rw [h2] at h; simp at h
  unfold wordN; rw [e, cond_false, List.getD_eq_getElem?_getD, hw]; rfl
theorem bt50 : BT Tryz.prog 50 (.agg #[(.int .i64 0), (.slice none 0 0), (.slice none 0 0), (.slice none 0 0), (.int .i64 0), (.slice none 0 0), (.slice none 0 0)]) (fun i => ([(0, 4), (4, 1), (5, 1), (6, 1)] : List (Nat × Nat))[i]?) := yM Tryz.underlying50 zr50 (by kernel_rfl)
theorem bt88 : BT Tryz.prog 88 (.agg #[(.int .i64 0), (.int .i64 0), (.int .i64 0)]) (fun i => ([(0, 1), (1, 1), (2, 1)] : List (Nat × Nat))[i]?) := yM Tryz.underlying88 zr88 (by kernel_rfl)
theorem elt48 : ElT Tryz.prog 48 88 3 24 := zAt Tryz.underlying48 (z := (.agg #[(.int .i64 0), (.int .i64 0), (.int .i64 0)])) (by kernel_rfl) rfl (by decide)
theorem handed_ok (l : Ldg) (N : Nat) (hN5 : l.reg.houses = (N : Int)) (hN6 : N ≤ 1000) (ws : List Nat) (hw5 : ∀ x ∈ ws, x < 65536) : PureAt Tryz.prog 39 [ldgD l, wordsD ws] (ints (handedR N ws)) := by
 refine PureAt.of_awp' Tryz.func39 rfl (by kernel_rfl) rfl fun hlen Γ hn hl => ?_
 have hwl := hlen.2.1; simp only [List.length_map] at hwl
 refine zC (zB ?_)
 refine stepW (zt 2 rfl rfl rfl (nb hn rfl) rfl rfl) fun b2 => ?_
 refine sq rfl rfl hn rfl (zF rfl rfl) ?_
 refine zE (zA (zC ?_))
 refine zz (zr (t := 2) 2 rfl (nb hn rfl) rfl rfl trivial) ?_
 refine zB ?_
 refine sq rfl rfl hn rfl (zF rfl rfl) ?_
 refine zE (zA (zC (zC ?_)))
 refine zz (g_nil (t := 5) (id := 5) 3 1 rfl (nb hn rfl)) ?_
 refine zB ?_
 refine sq rfl rfl hn rfl (zF rfl rfl) ?_
 refine zE (zA (zS ?_))
 refine awp_loop_on (ι := {x : Nat × Value // x.1 ≤ N}) (fun x => (5, true, .val x.1.2) :: (6, true, .d (.int .i64 (x.1.1 : Nat))) :: anys [8, 9, 10, 11, 12, 7, 15, 16, 17, 18, 19, 20, 21, 22, 23, 24, 25, 26, 27, 28, 29, 30, 13, 14]) (fun x => [(5, .row x.1.2 3 1 ((handedR x.1.1 ws).map intE))]) (fun x => N - x.1.1) ⟨(0, _), Nat.zero_le _⟩ ⟨.inl rfl, .inl rfl, zI _⟩ ⟨.inl rfl, trivial⟩ ?_
 rintro ⟨⟨i, vv⟩, hi⟩
 dsimp only
 dsimp only at hi
 have hhl := handed_len (N := i) (ws := ws)
 refine zC (zC (zB ?_))
 refine sq rfl rfl hn rfl (zG rfl rfl) ?_
 refine sq rfl rfl hn rfl (zL rfl rfl Tryz.underlying33 rfl sz26 rfl) ?_
 refine sq rfl rfl hn rfl (zL rfl rfl Tryz.underlying26 rfl sz3 rfl) ?_
 refine sq rfl rfl hn rfl (zQ rfl rfl Tryz.underlying3 rfl seesF0) ?_
 refine sq rfl rfl hn rfl (yL rfl rfl rfl) ?_
 refine zE (zA ?_)
 refine zR rfl (fun hb0 => ?_) (fun hb0 => ?_)
 ·
  have hil : i < N := by simp only [decide_eq_true_eq] at hb0; omega
  refine zT (zA (zC (zS (zC (zB ?_)))))
  refine sq rfl rfl hn rfl (zF rfl rfl) ?_
  refine zE (zA (zC (zC (zB ?_))))
  refine sq rfl rfl hn rfl (zG rfl rfl) ?_
  refine sq rfl rfl hn rfl (zy rfl rfl Tryz.underlying71) ?_
  refine sq rfl rfl hn rfl (kA rfl rfl rfl) ?_
  refine zE (zA ?_)
  refine yF (e := .normal) (ι := Unit) (fun u0 => (7, true, .d (.int .i64 ((wordN ws i % 5 : Nat) : Int))) :: anys [18, 19, 20, 21, 22, 23, 24, 25, 26]) (fun u0 => []) (fun hJ1 => ?_) ?_
  ·
   refine zR rfl (fun hb1 => ?_) (fun hb1 => ?_)
   ·
    have hw0 : 0 < ws.length := by simp only [decide_eq_true_eq, List.length_map] at hb1; omega
    obtain ⟨w, hw⟩ := z8 (Nat.mod_lt i hw0)
    have hwb := hw5 w (List.mem_of_getElem? hw)
    refine zB ?_
    refine sq rfl rfl hn rfl (zG rfl rfl) ?_
    refine sq rfl rfl hn rfl (zG rfl rfl) ?_
    refine sq rfl rfl hn rfl (zG rfl rfl) ?_
    refine sq rfl rfl hn rfl (zy rfl rfl Tryz.underlying71) ?_
    refine sq rfl rfl hn rfl (zCG rfl rfl rfl (r := ((i % ws.length : Nat) : Int)) (by rw [List.length_map]; omega) (by rw [List.length_map]; rfl)) ?_
    refine sq rfl rfl hn rfl (q_index (i := i % ws.length) rfl rfl rfl Tryz.underlying71 sz141 rfl (mget hw)) ?_
    refine sq rfl rfl hn rfl (zQ rfl rfl Tryz.underlying141 rfl seesF0) ?_
    refine sq rfl rfl hn rfl (zCa rfl rfl Tryz.underlying141 Tryz.underlying3 (r := ((w : Nat) : Int)) (i64w (by omega) rfl)) ?_
    refine sq rfl rfl hn rfl (zCG rfl rfl rfl (r := ((w % 5 : Nat) : Int)) (by omega) rfl) ?_
    refine sq rfl rfl hn rfl (zF rfl rfl) ?_
    refine zE ?_
    exact aend_join_on hJ1 () ⟨.inl (congrArg (fun n : Int => some (true, TV.d (.int .i64 n))) (word_some hw0 hw)), zI _⟩ trivial (by repeat (first | exact kr _ | refine kc rfl ?_)) (by repeat (first | exact kr _ | refine kc rfl ?_))
   ·
    have hw0 : ws.length = 0 := by simp only [decide_eq_false_iff_not, List.length_map] at hb1; omega
    refine zT ?_
    exact aend_join_on hJ1 () ⟨.inl (congrArg (fun n : Int => some (true, TV.d (.int .i64 n))) (word_none hw0)), zI _⟩ trivial (by repeat (first | exact kr _ | refine kc rfl ?_)) (by repeat (first | exact kr _ | refine kc rfl ?_))
  ·
   rintro _
   refine zA (zB ?_)
   refine sq rfl rfl hn rfl (zG rfl rfl) ?_
   refine sq rfl rfl hn rfl (zG rfl rfl) ?_
   refine stepW (zh rfl rfl rfl (nb hn rfl) Tryz.underlying22 sz3 zr3 rfl rfl rfl (show _ = [.d (.int .i64 0)] from by kernel_rfl) (by kernel_rfl) rfl rfl rfl rfl rfl) fun _ => ?_
   refine stepW (s_append (id := 5) rfl rfl rfl (nb hn rfl) elt22 trivial rfl rfl rfl (by simp [chunk]; omega) (by simp [chunk]; omega) (fun b hb => trivial)) fun v30 => ?_
   refine sq rfl rfl hn rfl (zF rfl rfl) ?_
   refine zE (zX (zA (zB ?_)))
   refine sq rfl rfl hn rfl (zG rfl rfl) ?_
   refine sq rfl rfl hn rfl (z6 rfl rfl rfl (r := ((i + 1 : Nat) : Int)) (i64w (by omega) (by omega))) ?_
   refine sq rfl rfl hn rfl (zF rfl rfl) ?_
   refine zE ?_
   exact zV ⟨(i + 1, v30), by omega⟩ ⟨.inl rfl, .inl rfl, zI _⟩ ⟨.inl (congrArg (fun z => some (Res.row v30 3 1 z)) handed_succ), trivial⟩ (by simp only; omega) (by repeat (first | exact kr _ | refine kc rfl ?_)) (by repeat (first | exact kr _ | refine kc rfl ?_))
 ·
  obtain rfl : i = N := by simp only [decide_eq_false_iff_not] at hb0; omega
  refine zw (zJ (zJ (zU (zA (zC (zB ?_))))))
  refine sq rfl rfl hn rfl (zG rfl rfl) ?_
  refine sq rfl rfl hn rfl (zF rfl rfl) ?_
  refine zE (zA (zP ?_))
  refine kP (g_row (t := 4) (id := 5) rfl rfl) ?_
  exact zq (.inl rfl) hl rfl (.tmp rfl)
theorem Ledger_ok (l : Ldg) (h1 : l.reg.start.length ≤ 1000000) (h2 : l.reg.entries.length ≤ 1000000) (h3 : l.reg.sights.length ≤ 1000000) (h4 : l.dues.length ≤ 1000000) (h5 : l.lends.length ≤ 1000000) : PureAt Tryz.prog 22 [ldgD l] (ldgD l) := by
 refine PureAt.of_awp Tryz.func22 rfl (by kernel_rfl) (Nat.le_of_ble_eq_true rfl) fun Γ hn hl => ?_
 refine zC (zB ?_)
 refine stepW (zt 1 rfl rfl rfl (nb hn rfl) rfl rfl) fun b1 => ?_
 refine stepW (zi 2 rfl rfl rfl (nb hn rfl) zr50 rfl rfl) fun b2 => ?_
 refine zE (zA (zC ?_))
 refine yF (e := .normal) (ι := Nat) (fun b3 => (3, true, .val (.pointer (some ⟨b3, 0, none⟩))) :: anys [5, 6, 7, 8, 9, 10, 11, 12, 13]) (fun b3 => (3, .box b3 50 [.d (.int .i64 l.reg.houses), .d (ints l.reg.start), .d (entsD l.reg.entries), .d (sightsD l.reg.sights), .d (.int .i64 l.day), .d (boolsD l.lends), .d .nil]) :: gones [12]) (fun hJ0 => ?_) ?_
 ·
  refine z7 (W := fun b => b ≠ b1) fmo ?_
  refine d1q (i := 0) rfl (by kernel_rfl) (fun _ _ _ _ h => h) rfl rfl hn rfl (zH rfl rfl Tryz.underlying33 rfl sz26) ?_
  refine d1q (i := 1) rfl (by kernel_rfl) (fun _ _ _ _ h => h) rfl rfl hn rfl (zZ rfl rfl (id := 1) rfl Tryz.underlying26 rfl sz26 rfl rfl (seesA (by simp))) ?_
  refine d1q (i := 3) rfl (by kernel_rfl) (fun _ _ _ _ h => h) rfl rfl hn rfl (zH rfl rfl Tryz.underlying33 rfl sz3) ?_
  refine d1q (i := 4) rfl (by kernel_rfl) (fun _ _ _ _ h => h) rfl rfl hn rfl (zO rfl rfl (id := 1) rfl Tryz.underlying3 rfl rfl (seesA (by simp))) ?_
  refine d1q (i := 5) rfl (by kernel_rfl) (fun _ _ _ _ h => h) rfl rfl hn rfl (zH rfl rfl Tryz.underlying33 rfl sz30) ?_
  refine d1q (i := 6) rfl (by kernel_rfl) (fun _ _ _ _ h => h) rfl rfl hn rfl (zO rfl rfl (id := 1) rfl Tryz.underlying30 rfl rfl (seesA (by simp))) ?_
  refine zN ?_
  refine kQ 2 [9] (by kernel_rfl) ⟨?_, ?_, trivial⟩
  ·
   refine br rfl (s_call [] (fun _ => kS l.reg h1 h2 h3) rfl (zK rfl) rfl (nb hn rfl) (fun _ => trivial) rfl rfl (.refl _)) fun _ => ?_
   refine d2_of_d1 (zN ?_)
   refine kQ 7 [9] (by kernel_rfl) ⟨?_, ?_, trivial⟩
   ·
    refine br rfl (zBe (id := 12) rfl rfl rfl (nb hn rfl) elt30 rfl rfl (by simp [chunk]; omega) (by simp [chunk]; omega)) fun v12 => ?_
    refine d2_of_d1 ?_
    refine zDz (g_row (t := 12) (id := 12) rfl rfl) ?_
    refine d1q (i := 8) rfl (by kernel_rfl) (fun _ _ _ _ h => h) rfl rfl hn rfl (zv rfl bt50 rfl rfl rfl rfl rfl) ?_
    refine zN ?_
    refine zj (i := 9) (by kernel_rfl) rfl (zi 3 rfl rfl rfl (nb hn rfl) zr50 rfl rfl) fun b3 => ?_
    refine d2_of_d1 (zN ?_)
    refine yS (i := 3) (j := 1) rfl rfl rfl (fun hne3_1 => ?_)
    refine zj (i := 10) (by kernel_rfl) rfl (zn rfl rfl rfl rfl rfl rfl (id := 3) rfl sz50 rfl (Nat.le_of_ble_eq_true rfl) rfl (fun e => hne3_1 _ rfl (congrArg some e.symm))) fun _ => ?_
    refine d2_of_d1 (zN ?_)
    refine zu (by kernel_rfl) ?_
    exact aend_join_on hJ0 b3 ⟨.inl rfl, zI _⟩ ⟨.inl rfl, zW _⟩ (by repeat (first | exact kr _ | refine kc rfl ?_)) (by repeat (first | exact kr _ | refine kc rfl ?_))
   ·
    refine br rfl (zi 3 rfl rfl rfl (nb hn rfl) zr50 rfl rfl) fun b3 => ?_
    refine d2_of_d1 (zN ?_)
    refine zj (i := 7) (by kernel_rfl) rfl (zBe (id := 12) rfl rfl rfl (nb hn rfl) elt30 rfl rfl (by simp [chunk]; omega) (by simp [chunk]; omega)) fun v12 => ?_
    refine d2_of_d1 ?_
    refine zDz (g_row (t := 12) (id := 12) rfl rfl) ?_
    refine d1q (i := 8) rfl (by kernel_rfl) (fun _ _ _ _ h => h) rfl rfl hn rfl (zv rfl bt50 rfl rfl rfl rfl rfl) ?_
    refine zN ?_
    refine yS (i := 3) (j := 1) rfl rfl rfl (fun hne3_1 => ?_)
    refine zj (i := 10) (by kernel_rfl) rfl (zn rfl rfl rfl rfl rfl rfl (id := 3) rfl sz50 rfl (Nat.le_of_ble_eq_true rfl) rfl (fun e => hne3_1 _ rfl (congrArg some e.symm))) fun _ => ?_
    refine d2_of_d1 (zN ?_)
    refine zu (by kernel_rfl) ?_
    exact aend_join_on hJ0 b3 ⟨.inl rfl, zI _⟩ ⟨.inl rfl, zW _⟩ (by repeat (first | exact kr _ | refine kc rfl ?_)) (by repeat (first | exact kr _ | refine kc rfl ?_))
  ·
   refine br rfl (zi 3 rfl rfl rfl (nb hn rfl) zr50 rfl rfl) fun b3 => ?_
   refine d2_of_d1 (zN ?_)
   refine zj (i := 2) (by kernel_rfl) rfl (s_call [] (fun _ => kS l.reg h1 h2 h3) rfl (zK rfl) rfl (nb hn rfl) (fun _ => trivial) rfl rfl (.refl _)) fun _ => ?_
   refine d2_of_d1 (zN ?_)
   refine zj (i := 7) (by kernel_rfl) rfl (zBe (id := 12) rfl rfl rfl (nb hn rfl) elt30 rfl rfl (by simp [chunk]; omega) (by simp [chunk]; omega)) fun v12 => ?_
   refine d2_of_d1 ?_
   refine zDz (g_row (t := 12) (id := 12) rfl rfl) ?_
   refine d1q (i := 8) rfl (by kernel_rfl) (fun _ _ _ _ h => h) rfl rfl hn rfl (zv rfl bt50 rfl rfl rfl rfl rfl) ?_
   refine zN ?_
   refine yS (i := 3) (j := 1) rfl rfl rfl (fun hne3_1 => ?_)
   refine zj (i := 10) (by kernel_rfl) rfl (zn rfl rfl rfl rfl rfl rfl (id := 3) rfl sz50 rfl (Nat.le_of_ble_eq_true rfl) rfl (fun e => hne3_1 _ rfl (congrArg some e.symm))) fun _ => ?_
   refine d2_of_d1 (zN ?_)
   refine zu (by kernel_rfl) ?_
   exact aend_join_on hJ0 b3 ⟨.inl rfl, zI _⟩ ⟨.inl rfl, zW _⟩ (by repeat (first | exact kr _ | refine kc rfl ?_)) (by repeat (first | exact kr _ | refine kc rfl ?_))
 ·
  rintro b3
  refine zA (zC (zC ?_))
  refine zz (gh_nilcell (id := 3) (k := 6) 306 88 3 rfl rfl) ?_
  refine zB ?_
  refine sq rfl rfl hn rfl (zF rfl rfl) ?_
  refine zE (zA (zS ?_))
  refine awp_loop_on (ι := { x : Nat × Value // x.1 ≤ l.dues.length }) (fun x => (4, true, .d (.int .i64 (x.1.1 : Nat))) :: anys [14, 15, 16, 17, 18, 21, 22, 23, 24, 25, 26, 27, 28, 29, 30, 31, 32, 33, 34, 35, 36, 37, 38, 39, 40, 41, 42, 43, 44, 19, 20]) (fun x => [(3, .box b3 50 [.d (.int .i64 l.reg.houses), .d (ints l.reg.start), .d (entsD l.reg.entries), .d (sightsD l.reg.sights), .d (.int .i64 l.day), .d (boolsD l.lends), .val x.1.2]), (306, .row x.1.2 88 3 ((l.dues.take x.1.1).map dueE))]) (fun x => l.dues.length - x.1.1) ⟨(0, .slice none 0 0), by simp⟩ ⟨.inl rfl, zI _⟩ ⟨.inl rfl, .inl rfl, trivial⟩ ?_
  rintro ⟨⟨i, vv⟩, hi⟩
  dsimp only
  dsimp only at hi
  refine zC (zC (zB ?_))
  refine sq rfl rfl hn rfl (zG rfl rfl) ?_
  refine sq rfl rfl hn rfl (zH rfl rfl Tryz.underlying33 rfl sz31) ?_
  refine sq rfl rfl hn rfl (zO rfl rfl (id := 1) rfl Tryz.underlying31 rfl rfl sees0) ?_
  refine sq rfl rfl hn rfl (zy rfl rfl Tryz.underlying31) ?_
  refine sq rfl rfl hn rfl (yL rfl rfl rfl) ?_
  refine zE (zA ?_)
  refine zR rfl (fun hb1 => ?_) (fun hb1 => ?_)
  ·
   try simp only [decide_eq_true_eq, decide_eq_false_iff_not, Bool.and_eq_true, Bool.or_eq_true, Bool.and_eq_false_iff, Bool.or_eq_false_iff, Bool.not_eq_true', Bool.not_eq_false', beq_iff_eq, bne_iff_ne, ne_eq, beq_eq_false_iff_ne, bne_eq_false_iff_eq, Int.not_lt, Int.not_le] at hb1
   have hlt : i < l.dues.length := by simpa using hb1
   obtain ⟨x, hx⟩ := z8 hlt
   refine zT (zA (zC (zS ?_)))
   refine z7 (W := fun b => b ≠ b1) fmo ?_
   refine d1q (i := 0) rfl (by kernel_rfl) (fun _ _ _ _ h => h) rfl rfl hn rfl (zH rfl rfl Tryz.underlying50 rfl sz48) ?_
   refine d1q (i := 2) rfl (by kernel_rfl) (fun _ _ _ _ h => h) rfl rfl hn rfl (zH rfl rfl Tryz.underlying33 rfl sz31) ?_
   refine d1q (i := 3) rfl (by kernel_rfl) (fun _ _ _ _ h => h) rfl rfl hn rfl (zO rfl rfl (id := 1) rfl Tryz.underlying31 rfl rfl (seesA (by simp))) ?_
   refine d1q (i := 4) rfl (by kernel_rfl) (fun _ _ _ _ h => h) rfl rfl hn rfl (zG rfl rfl) ?_
   refine d1q (i := 5) rfl (by kernel_rfl) (fun _ _ _ _ h => h) rfl rfl hn rfl (q_index (i := i) rfl rfl rfl Tryz.underlying31 sz35 rfl (mget hx)) ?_
   refine d1q (i := 6) rfl (by kernel_rfl) (fun _ _ _ _ h => h) rfl rfl hn rfl (zL rfl rfl Tryz.underlying35 rfl sz3 rfl) ?_
   refine d1q (i := 7) rfl (by kernel_rfl) (fun _ _ _ _ h => h) rfl rfl hn rfl (zQ rfl rfl Tryz.underlying3 rfl seesFA) ?_
   refine d1q (i := 8) rfl (by kernel_rfl) (fun _ _ _ _ h => h) rfl rfl hn rfl (zH rfl rfl Tryz.underlying33 rfl sz31) ?_
   refine d1q (i := 9) rfl (by kernel_rfl) (fun _ _ _ _ h => h) rfl rfl hn rfl (zO rfl rfl (id := 1) rfl Tryz.underlying31 rfl rfl (seesA (by simp))) ?_
   refine d1q (i := 10) rfl (by kernel_rfl) (fun _ _ _ _ h => h) rfl rfl hn rfl (zG rfl rfl) ?_
   refine d1q (i := 11) rfl (by kernel_rfl) (fun _ _ _ _ h => h) rfl rfl hn rfl (q_index (i := i) rfl rfl rfl Tryz.underlying31 sz35 rfl (mget hx)) ?_
   refine d1q (i := 12) rfl (by kernel_rfl) (fun _ _ _ _ h => h) rfl rfl hn rfl (zL rfl rfl Tryz.underlying35 rfl sz3 rfl) ?_
   refine d1q (i := 13) rfl (by kernel_rfl) (fun _ _ _ _ h => h) rfl rfl hn rfl (zQ rfl rfl Tryz.underlying3 rfl seesFA) ?_
   refine d1q (i := 14) rfl (by kernel_rfl) (fun _ _ _ _ h => h) rfl rfl hn rfl (zH rfl rfl Tryz.underlying33 rfl sz31) ?_
   refine d1q (i := 15) rfl (by kernel_rfl) (fun _ _ _ _ h => h) rfl rfl hn rfl (zO rfl rfl (id := 1) rfl Tryz.underlying31 rfl rfl (seesA (by simp))) ?_
   refine d1q (i := 16) rfl (by kernel_rfl) (fun _ _ _ _ h => h) rfl rfl hn rfl (zG rfl rfl) ?_
   refine d1q (i := 17) rfl (by kernel_rfl) (fun _ _ _ _ h => h) rfl rfl hn rfl (q_index (i := i) rfl rfl rfl Tryz.underlying31 sz35 rfl (mget hx)) ?_
   refine d1q (i := 18) rfl (by kernel_rfl) (fun _ _ _ _ h => h) rfl rfl hn rfl (zL rfl rfl Tryz.underlying35 rfl sz3 rfl) ?_
   refine d1q (i := 19) rfl (by kernel_rfl) (fun _ _ _ _ h => h) rfl rfl hn rfl (zQ rfl rfl Tryz.underlying3 rfl seesFA) ?_
   refine d1q (i := 20) rfl (by kernel_rfl) (fun _ _ _ _ h => h) rfl rfl hn rfl (zv rfl bt88 rfl rfl rfl rfl rfl) ?_
   refine zN ?_
   refine kQ 1 [21] (by kernel_rfl) ⟨?_, ?_, trivial⟩
   ·
    refine br rfl (yQ _ [] (zK rfl) rfl (nb hn rfl) (fun _ => trivial) (fun _ => zO rfl rfl (id := 3) rfl Tryz.underlying48 rfl rfl sees0)) fun _ => ?_
    refine d2_of_d1 (zN ?_)
    refine zj (i := 21) (by kernel_rfl) rfl (zh rfl rfl rfl (nb hn rfl) Tryz.underlying48 sz88 zr88 rfl rfl rfl (show _ = [.d (.int .i64 0), .d (.int .i64 0), .d (.int .i64 0)] from by kernel_rfl) (by kernel_rfl) rfl rfl rfl rfl rfl) fun _ => ?_
    refine d2_of_d1 (zN ?_)
    refine yS (i := 306) (j := 1) rfl rfl rfl (fun hne306_1 => ?_)
    refine zj (i := 22) (by kernel_rfl) rfl (s_append (id := 306) rfl rfl rfl (nb hn rfl) elt48 trivial rfl rfl rfl (by simp [chunk, List.length_take]; omega) (by simp [chunk, List.length_take]; omega) (fun b hb => (fun e => hne306_1 _ hb (congrArg some e.symm)))) fun v43 => ?_
    refine d2_of_d1 ?_
    refine d1q (i := 23) rfl (by kernel_rfl) (fun _ _ _ _ h => h) rfl rfl hn rfl (zH rfl rfl Tryz.underlying50 rfl sz48) ?_
    refine zN ?_
    refine yS (i := 3) (j := 1) rfl rfl rfl (fun hne3_1 => ?_)
    refine zj (i := 24) (by kernel_rfl) rfl (s_storeRow rfl rfl rfl rfl rfl (rid := 306) rfl (id := 3) rfl sz48 (Nat.le_of_ble_eq_true rfl) rfl (fun e => hne3_1 _ rfl (congrArg some e.symm))) fun _ => ?_
    refine d2_of_d1 (zN ?_)
    refine zu (by kernel_rfl) ?_
    refine zX (zA (zB ?_))
    refine sq rfl rfl hn rfl (zG rfl rfl) ?_
    refine sq rfl rfl hn rfl (z6 rfl rfl rfl (r := ((i + 1 : Nat) : Int)) (i64w (by omega) (by omega))) ?_
    refine sq rfl rfl hn rfl (zF rfl rfl) ?_
    refine zE ?_
    exact zV ⟨(i + 1, v43), by simp only; omega⟩ ⟨.inl rfl, zI _⟩ ⟨.inl rfl, .inl (congrArg (fun z => some (Res.row v43 88 3 z)) (zCr hx)), trivial⟩ (by simp only; omega) (by repeat (first | exact kr _ | refine kc rfl ?_)) (by repeat (first | exact kr _ | refine kc rfl ?_))
   ·
    refine br rfl (zh rfl rfl rfl (nb hn rfl) Tryz.underlying48 sz88 zr88 rfl rfl rfl (show _ = [.d (.int .i64 0), .d (.int .i64 0), .d (.int .i64 0)] from by kernel_rfl) (by kernel_rfl) rfl rfl rfl rfl rfl) fun _ => ?_
    refine d2_of_d1 (zN ?_)
    refine zj (i := 1) (by kernel_rfl) rfl (yQ _ [] (zK rfl) rfl (nb hn rfl) (fun _ => trivial) (fun _ => zO rfl rfl (id := 3) rfl Tryz.underlying48 rfl rfl sees0)) fun _ => ?_
    refine d2_of_d1 (zN ?_)
    refine yS (i := 306) (j := 1) rfl rfl rfl (fun hne306_1 => ?_)
    refine zj (i := 22) (by kernel_rfl) rfl (s_append (id := 306) rfl rfl rfl (nb hn rfl) elt48 trivial rfl rfl rfl (by simp [chunk, List.length_take]; omega) (by simp [chunk, List.length_take]; omega) (fun b hb => (fun e => hne306_1 _ hb (congrArg some e.symm)))) fun v43 => ?_
    refine d2_of_d1 ?_
    refine d1q (i := 23) rfl (by kernel_rfl) (fun _ _ _ _ h => h) rfl rfl hn rfl (zH rfl rfl Tryz.underlying50 rfl sz48) ?_
    refine zN ?_
    refine yS (i := 3) (j := 1) rfl rfl rfl (fun hne3_1 => ?_)
    refine zj (i := 24) (by kernel_rfl) rfl (s_storeRow rfl rfl rfl rfl rfl (rid := 306) rfl (id := 3) rfl sz48 (Nat.le_of_ble_eq_true rfl) rfl (fun e => hne3_1 _ rfl (congrArg some e.symm))) fun _ => ?_
    refine d2_of_d1 (zN ?_)
    refine zu (by kernel_rfl) ?_
    refine zX (zA (zB ?_))
    refine sq rfl rfl hn rfl (zG rfl rfl) ?_
    refine sq rfl rfl hn rfl (z6 rfl rfl rfl (r := ((i + 1 : Nat) : Int)) (i64w (by omega) (by omega))) ?_
    refine sq rfl rfl hn rfl (zF rfl rfl) ?_
    refine zE ?_
    exact zV ⟨(i + 1, v43), by simp only; omega⟩ ⟨.inl rfl, zI _⟩ ⟨.inl rfl, .inl (congrArg (fun z => some (Res.row v43 88 3 z)) (zCr hx)), trivial⟩ (by simp only; omega) (by repeat (first | exact kr _ | refine kc rfl ?_)) (by repeat (first | exact kr _ | refine kc rfl ?_))
  ·
   try simp only [decide_eq_true_eq, decide_eq_false_iff_not, Bool.and_eq_true, Bool.or_eq_true, Bool.and_eq_false_iff, Bool.or_eq_false_iff, Bool.not_eq_true', Bool.not_eq_false', beq_iff_eq, bne_iff_ne, ne_eq, beq_eq_false_iff_ne, bne_eq_false_iff_eq, Int.not_lt, Int.not_le] at hb1
   have hie : i = l.dues.length := by simp only [List.length_map] at hb1; omega
   subst hie; rw [List.take_length]
   refine zw (zJ (zJ (zU (zA (zC ?_)))))
   refine zz (gh_rowcell (id := 3) (k := 6) (rid := 306) rfl rfl rfl) ?_
   refine zB ?_
   refine sq rfl rfl hn rfl (zZ rfl rfl (id := 3) rfl Tryz.underlying50 rfl sz50 rfl rfl sees0) ?_
   refine stepW (zn rfl rfl rfl rfl rfl rfl (id := 2) rfl sz50 rfl (Nat.le_of_ble_eq_true rfl) rfl trivial) fun _ => ?_
   refine zE (zA (zP ?_))
   exact zq (.inl rfl) hl rfl (.cellA rfl (id := 2) rfl Tryz.underlying50 rfl sz50 rfl rfl)
end Go.Proofs.YtaokpncjemkhcaaGreat
namespace Go.Proofs.YtaokpncjemkhcaaGreat
open Go.RowKit
set_option maxRecDepth 20000
set_option linter.all false
theorem eq37 (a b c d : Int) (w : World) : (binOp .eql 37 (.agg #[.int .i64 a, .int .i64 b]) (.agg #[.int .i64 c, .int .i64 d])).run Tryz.prog w = .ok (.bool (a == c && b == d)) w := by
  have u3 := Tryz.underlying3
  have a3 := Tryz.isAgg3
  have z3 := Tryz.sizeOf3
  have hS : Tryz.prog.underlying 37 = some (.struct (Tryz.prog.fieldsOf 37)) := by kernel_rfl
  have hp : Tryz.prog.stoodInHeld 37 = false := by kernel_rfl
  rw [run_eql_struct, show (10000 : Nat) = 9999 + 1 from rfl, run_equalIn_agg w 9999 37 _ _ hS hp]
  simp only [Program.fieldsOf, Tryz.underlying37]
  go_simp
  by_cases h1 : a = c <;> by_cases h2 : b = d <;> simp [h1, h2]
theorem guard37 (op : BinOp) (x y : Operand) (xs ys : Array Value) (w : World) : (eqGuard op 37 x y (.agg xs) (.agg ys)).run Tryz.prog w = .ok () w := run_eqGuard_agg w op 37 x y xs ys (by kernel_rfl)
theorem q_eql37 {Γ : Cx} {σ : St} {o : Oper} {R : Rel} {x y : Operand} {t' : TypeId} {a b c d : Int} (h : o.op = .binOp .eql 37 x y t') (hx : σ.ev x = some (true, .d (.agg [.int .i64 a, .int .i64 b]))) (hy : σ.ev y = some (true, .d (.agg [.int .i64 c, .int .i64 d]))) :
    QV Γ Tryz.prog σ o R (.d (.bool (a == c && b == d))) := fun A w F hs => by
  obtain ⟨vs, e1, h1, _⟩ := hs.ev hx
  obtain ⟨us, e2, h2, _⟩ := hs.ev hy
  obtain ⟨v1, vs1, rfl, q1, v2, vs2, rfl, q2, q3⟩ := h1
  obtain ⟨u1, us1, rfl, p1, u2, us2, rfl, p2, p3⟩ := h2
  simp only [Rep, RepVals] at q1 q2 q3 p1 p2 p3
  subst q1 q2 q3 p1 p2 p3
  exact ⟨.bool (a == c && b == d), rfl, fun w' _ => by
    simp only [execOp, h, e1, e2, Sem.run_bind, guard37, Result.andThen_ok, eq37, Sem.run_pure]⟩
end Go.Proofs.YtaokpncjemkhcaaGreat
namespace Go.Proofs.YtaokpncjemkhcaaGreat
open Go.RowKit
set_option maxRecDepth 20000
set_option linter.all false
theorem notThin {b : Bool} (h : (!b) = false) : b = true := by cases b <;> simp_all
theorem hs_all {l : Ldg} (hk : knownR l = (handsR l, 0)) : ∀ h ∈ handsR l, HsOK l h := fun h hh => known_hs h (by rw [hk]; exact hh)
end Go.Proofs.YtaokpncjemkhcaaGreat
namespace Go.Proofs.YtaokpncjemkhcaaGreat
open Go.RowKit
set_option maxRecDepth 20000
set_option linter.all false
theorem verdX_bad {l : Ldg} (h : (knownR l).2 ≠ 0) : verdX l = ([], (knownR l).2) := if_pos h
theorem verdX_ok {l : Ldg} (h : (knownR l).2 = 0) : verdX l = (verdTo l l.dues.length, 0) := if_neg (by simpa using h)
end Go.Proofs.YtaokpncjemkhcaaGreat
namespace Go.Proofs.YtaokpncjemkhcaaGreat
open Go.RowKit
set_option maxRecDepth 20000
set_option linter.all false
theorem verd_1 {l : List Bool} (h : ∀ b ∈ l, b = true) : verdB l = 1 := if_pos (by rw [List.all_eq_true]; exact h)
end Go.Proofs.YtaokpncjemkhcaaGreat
namespace Go.Proofs.YtaokpncjemkhcaaGreat
open Go.RowKit
set_option maxRecDepth 20000
set_option linter.all false
theorem zr33 : (Tryz.prog.info? 33).map (·.zero) = some (some (.agg #[(.int .i64 0), (.slice none 0 0), (.slice none 0 0), (.slice none 0 0), (.int .i64 0), (.slice none 0 0), (.slice none 0 0)])) := by kernel_rfl
theorem bt35 : BT Tryz.prog 35 (.agg #[(.int .i64 0), (.int .i64 0), (.int .i64 0)]) (fun i => ([(0, 1), (1, 1), (2, 1)] : List (Nat × Nat))[i]?) := yM Tryz.underlying35 zr35 (by kernel_rfl)
end Go.Proofs.YtaokpncjemkhcaaGreat
namespace Go.Proofs.YtaokpncjemkhcaaGreat
open Go.RowKit
set_option maxRecDepth 20000
set_option linter.all false
theorem num0 {l : Ldg} {N : Nat} {h : List Int} (H : Hok l N h) : Num0 l.dues := fun q hq => by have := H.hq6 q hq; omega
end Go.Proofs.YtaokpncjemkhcaaGreat
namespace Go.Proofs.YtaokpncjemkhcaaGreat
open Go.RowKit
set_option maxRecDepth 20000
set_option linter.all false
theorem zEa {r : Reg} {is : Bool} {N : Nat} {out : List Nat} {e : Int} (v : Valid r) (his : is = true) (hN : N ≤ 9) (h : AskP r is (N : Nat) out e) : EvOK r N out ∧ e = if allDays r = [] then 9 else 0 := by
  have h0 := kg v
  rcases h with ⟨k, _, _⟩ | ⟨_, k, _⟩ | ⟨_, _, n, hn, h9, hev, he⟩
  · exact (k h0).elim
  · rw [his] at k; simp [dayB] at k; omega
  · obtain rfl : N = n := by omega
    refine ⟨hev, he.trans ?_⟩
    by_cases ho : out = []
    · rw [if_pos ((zBi v hN hev).1 ho), ho]; rfl
    · rw [if_neg (fun e => ho ((zBi v hN hev).2 e))]
      cases out with
      | nil => exact (ho rfl).elim
      | cons _ _ => rfl
def hnL (n : Int) : Ldg := ⟨⟨2, [0], [], []⟩, 0, [false, false], [⟨0, 1, n⟩]⟩
theorem hn_1 : verdX (hnL 1) = ([1], 0) := by kernel_rfl
theorem hn_2 : verdX (hnL 2) = ([2], 0) := by kernel_rfl
abbrev hnR : Reg := ⟨2, [0], [], []⟩
theorem hn_chk : checkE hnR = 0 := by kernel_rfl
theorem hn_in : refInHand hnR (allDays hnR) 0 0 = (1, 1) := by kernel_rfl
theorem hn_all : (allDays hnR).isEmpty = false := by kernel_rfl
theorem hn_ask (x : AskX hnR (houseB hnR 0) 0) : x.1.2 = 0 ∧ heldR hnR 0 x.1.1 = (1, 1) := by
  have v := kl hn_chk
  have ha : allDays hnR ≠ [] := fun e => by have := hn_all; rw [e] at this; cases this
  obtain ⟨h1, h2⟩ := zEa (N := 0) v rfl (by omega) x.2
  rw [if_neg ha] at h2
  exact ⟨h2, (zEf v (by omega) (fun e => ha ((zBi v (by omega) h1).1 e)) h1).trans hn_in⟩
/-- A ledger of one due; no house lends. -/
def topL (r : Reg) (N H : Nat) (a b n : Int) : Ldg := ⟨r, (N : Int), List.replicate H false, [⟨a, b, n⟩]⟩
structure TopOK (r : Reg) (N H : Nat) (a b n : Int) : Prop where
  v : Valid r
  g : r.sights = []
  hH : r.houses = (H : Int)
  hN : N ≤ 9
  ha : 0 ≤ a ∧ a < H
  hb : 0 ≤ b ∧ b < H
  hab : a ≠ b
  hn : 1 ≤ n ∧ n ≤ 4
section
variable {r : Reg} {N H : Nat} {a b n : Int}
theorem TopOK.lok (T : TopOK r N H a b n) : Lok (topL r N H a b n) :=
  ⟨T.v, T.g, ⟨by show (0 : Int) ≤ (N : Int); omega, by show (N : Int) ≤ 9; have := T.hN; omega⟩, by show ((List.replicate H false).length : Int) = r.houses; rw [List.length_replicate]; exact T.hH.symm, by show 1 ≤ 6; omega, fun q hq => by
    obtain rfl : q = ⟨a, b, n⟩ := List.mem_singleton.1 hq
    have h1 : r.houses = _ := T.hH
    have := T.ha; have := T.hb
    refine ⟨⟨T.ha.1, ?_⟩, ⟨T.hb.1, ?_⟩, T.hab, T.hn⟩ <;> (show _ ≤ r.houses - 1; dsimp only; omega)⟩
theorem zAg (T : TopOK r N H a b n) : handsR (topL r N H a b n) = handsL r N := by
  unfold handsR dayN topL; simp
theorem top_made (T : TopOK r N H a b n) {h : List Int} (hh : HsOK (topL r N H a b n) h) : madeB (topL r N H a b n) 0 h = decide (n ≤ h.getD a.toNat 0) := by
  have L := T.lok
  have HK := L.hok hh.2
  have hhN : houN (topL r N H a b n) = H := by show r.houses.toNat = H; rw [T.hH]; rfl
  have hn0 : Num0 (topL r N H a b n).dues := num0 HK
  have hcan : canL (topL r N H a b n) (houN (topL r N H a b n)) h [n] = decide (n ≤ h.getD a.toNat 0) := by
    have e1 : canL (topL r N H a b n) (houN (topL r N H a b n)) h [n] = canP H (fun _ => false) h [⟨a, b, n⟩] [n] := by
      unfold canL; rw [hhN]
      exact can_lends fun i hi => by show (List.replicate H false).getD i false = false; rw [List.getD_eq_getElem?_getD, List.getElem?_replicate]; split <;> rfl
    rw [e1, can_alone (fun i _ => (HK.hh5 i).1) ⟨T.ha.1, T.ha.2⟩ T.hab (by have := T.hn; omega)]
  have e : madeB (topL r N H a b n) 0 h = (bestD (canL (topL r N H a b n) (houN (topL r N H a b n)) h) 0 (topL r N H a b n).dues).isSome := by
    show (bestR _ _ _ ((0 : Nat) : Int)).2.2 = _
    unfold bestR
    cases hd : bestD (canL (topL r N H a b n) (houN (topL r N H a b n)) h) ((0 : Nat) : Int) (topL r N H a b n).dues with
    | none => rfl
    | some p => rfl
  rw [e, Bool.eq_iff_iff, best_isSome hn0, ← hcan]
  constructor
  · rintro ⟨d, hl, ho⟩
    have hlen := zCc hl
    obtain ⟨x, rfl⟩ : ∃ x, d = [x] := by
      match d, hlen with
      | [x], _ => exact ⟨x, rfl⟩
    simp only [okD, Bool.and_eq_true] at ho
    have hx : x = n := by have := ho.1; simp [topL, wholeB] at this; exact this
    rw [hx] at ho; exact ho.2
  · intro hc
    refine ⟨[n], ?_, ?_⟩
    · have := T.hn; simp [topL, listedB]; omega
    · simp only [okD, Bool.and_eq_true]; exact ⟨by simp [topL, wholeB], hc⟩
def handAt (r : Reg) (N H : Nat) (o : List Int) : List Int := (List.range H).map fun (a : Nat) => ((countAt o N r.start.length (a : Int) : Nat) : Int)
theorem zCH {o : List Int} {i : Nat} (h : i < H) : (handAt r N H o).getD i 0 = ((countAt o N r.start.length (i : Int) : Nat) : Int) := by
  unfold handAt; rw [List.getD_eq_getElem?_getD, List.getElem?_map, List.getElem?_range h]; rfl
theorem handAt_mem (T : TopOK r N H a b n) {o : List Int} (ho : o ∈ allDays r) : handAt r N H o ∈ handsL r N := by
  refine (kF T.v).2 ⟨by rw [T.hH]; simp [handAt], zAk.2 ⟨o, ho, fun i hi => ?_⟩⟩
  rw [zCH (by simpa [handAt] using hi)]
theorem hands_at (T : TopOK r N H a b n) {h : List Int} (hh : h ∈ handsL r N) : ∃ o ∈ allDays r, h.getD a.toNat 0 = ((countAt o N r.start.length a : Nat) : Int) := by
  obtain ⟨h1, h2⟩ := (kF T.v).1 hh
  obtain ⟨o, ho, hc⟩ := zAk.1 h2
  rw [T.hH] at h1
  have := T.ha
  have h3 := hc a.toNat (by rw [h1]; show a.toNat < (H : Int).toNat; omega)
  rw [show ((a.toNat : Nat) : Int) = a by omega] at h3
  exact ⟨o, ho, h3.symm⟩
def topV (lo hi n : Int) : Int := if hi < n then 2 else if n ≤ lo then 1 else 3
theorem top_verd (T : TopOK r N H a b n) (hne : allDays r ≠ []) : verdX (topL r N H a b n) = ([topV (refInHand r (allDays r) a N).1 (refInHand r (allDays r) a N).2 n], 0) := by
  have L := T.lok
  have hh0 : handsR (topL r N H a b n) ≠ [] := by rw [zAg T]; exact fun e => hne ((zDG T.v T.hN).1 e)
  have hk := zAs (zD6 L) hh0
  have hhs := hs_all hk
  rw [verdX_ok (by rw [hk])]
  have hv : verdTo (topL r N H a b n) (topL r N H a b n).dues.length = [verdB ((knownR (topL r N H a b n)).1.map (madeB (topL r N H a b n) 0))] := rfl
  rw [hv, hk]
  have hca : ∀ o, ((countAt o N r.start.length a : Nat) : Int) ≤ 9 := fun o => by
    have h1 : countAt o N r.start.length a ≤ (List.range r.start.length).length := List.countP_le_length
    have := T.v.s4; rw [List.length_range] at h1; omega
  obtain ⟨b1, b2, b3⟩ := buy_ok (lo := 9) (ns := (allDays r).map fun o => (countAt o N r.start.length a : Int)) (by simpa using hne) fun x hx => by
    obtain ⟨o, _, rfl⟩ := List.mem_map.1 hx
    exact ⟨by omega, hca o⟩
  have hr : refInHand r (allDays r) a N = buyR 9 ((allDays r).map fun o => (countAt o N r.start.length a : Int)) := rfl
  rw [← hr] at b1 b2 b3
  have hm : ∀ h ∈ handsR (topL r N H a b n), madeB (topL r N H a b n) 0 h = decide (n ≤ h.getD a.toNat 0) := fun h hh => top_made T (hhs h hh)
  have hat : ∀ o, o ∈ allDays r → handAt r N H o ∈ handsR (topL r N H a b n) ∧ (handAt r N H o).getD a.toNat 0 = ((countAt o N r.start.length a : Nat) : Int) := fun o ho => by
    refine ⟨by rw [zAg T]; exact handAt_mem T ho, ?_⟩
    have := T.ha
    rw [zCH (by omega), show ((a.toNat : Nat) : Int) = a by omega]
  have hal : ∀ h ∈ handsR (topL r N H a b n), (refInHand r (allDays r) a N).1 ≤ h.getD a.toNat 0 ∧ h.getD a.toNat 0 ≤ (refInHand r (allDays r) a N).2 := fun h hh => by
    rw [zAg T] at hh
    obtain ⟨o, ho, e⟩ := hands_at T hh
    rw [e]; exact b1 _ (List.mem_map.2 ⟨o, ho, rfl⟩)
  congr 1
  congr 1
  unfold topV
  by_cases h2 : (refInHand r (allDays r) a N).2 < n
  · rw [if_pos h2]
    have hf : ∀ x ∈ (handsR (topL r N H a b n)).map (madeB (topL r N H a b n) 0), x = false := fun x hx => by
      obtain ⟨h, hh, rfl⟩ := List.mem_map.1 hx
      rw [hm h hh]; have := hal h hh; exact decide_eq_false (by omega)
    rw [zDt, if_neg, if_pos]
    · rw [List.any_eq_false]; intro x hx; rw [hf x hx]; simp
    · rw [List.any_eq_false]
      intro hall
      cases hq : handsR (topL r N H a b n) with
      | nil => exact hh0 hq
      | cons h t =>
        have hx : madeB (topL r N H a b n) 0 h ∈ (handsR (topL r N H a b n)).map (madeB (topL r N H a b n) 0) := by rw [hq]; exact List.mem_map.2 ⟨h, List.mem_cons_self, rfl⟩
        have := hall _ hx
        rw [hf _ hx] at this; simp at this
  · rw [if_neg h2]
    by_cases h1 : n ≤ (refInHand r (allDays r) a N).1
    · rw [if_pos h1]
      exact verd_1 fun x hx => by
        obtain ⟨h, hh, rfl⟩ := List.mem_map.1 hx
        rw [hm h hh]; have := hal h hh; exact decide_eq_true (by omega)
    · rw [if_neg h1]
      obtain ⟨o1, ho1, e1⟩ := List.mem_map.1 b2
      obtain ⟨o2, ho2, e2⟩ := List.mem_map.1 b3
      obtain ⟨m1, g1⟩ := hat o1 ho1
      obtain ⟨m2, g2⟩ := hat o2 ho2
      have hf : madeB (topL r N H a b n) 0 (handAt r N H o1) = false := by rw [hm _ m1, g1]; exact decide_eq_false (by omega)
      have ht : madeB (topL r N H a b n) 0 (handAt r N H o2) = true := by rw [hm _ m2, g2]; exact decide_eq_true (by omega)
      rw [zDt, if_neg, if_neg]
      · rw [List.any_eq_false]; intro hall; have := hall true (List.mem_map.2 ⟨_, m2, ht⟩); simp at this
      · rw [List.any_eq_false]; intro hall; have := hall false (List.mem_map.2 ⟨_, m1, hf⟩); simp at this
end
theorem zDq (n : Nat) : (List.replicate n [TV.d (.bool false)]).flatten = ((List.replicate n false).map boolE).flatten.map .d := by
  induction n with
  | zero => rfl
  | succ n ih => rw [List.replicate_succ, List.flatten_cons, ih]; rfl
theorem top_or {r : Reg} {n : Int} {c : Bool} (h : ((((!thinB r) || (checkE r != 0)) || decide (0 < n)) || c) = false) : thinB r = true ∧ checkE r = 0 ∧ n ≤ 0 ∧ c = false := by
  simp only [Bool.or_eq_false_iff] at h
  obtain ⟨⟨⟨a, b⟩, d⟩, e⟩ := h
  have := of_decide_eq_false d
  exact ⟨notThin a, by simpa using b, by omega, e⟩
theorem topB_ne {H a x : Nat} (hH : 2 ≤ H) (ha : a < H) : ((a + 1 + x % (H - 1)) % H : Nat) ≠ a := by
  have h1 := Nat.mod_lt x (show 0 < H - 1 by omega)
  generalize x % (H - 1) = y at h1
  by_cases h2 : a + 1 + y < H
  · rw [Nat.mod_eq_of_lt h2]; omega
  · have : a + 1 + y = (a + 1 + y - H) + H := by omega
    rw [this, Nat.add_mod_right, Nat.mod_eq_of_lt (by omega)]; omega
theorem bt33 : BT Tryz.prog 33 (.agg #[(.int .i64 0), (.slice none 0 0), (.slice none 0 0), (.slice none 0 0), (.int .i64 0), (.slice none 0 0), (.slice none 0 0)]) (fun i => ([(0, 4), (4, 1), (5, 1), (6, 1)] : List (Nat × Nat))[i]?) := yM Tryz.underlying33 zr33 (by kernel_rfl)
theorem zAK  : PureAt Tryz.prog 18 [] (.bool true) := by
 refine PureAt.of_awp Tryz.func18 rfl (by kernel_rfl) (Nat.le_of_ble_eq_true rfl) fun Γ hn hl => ?_
 refine zC (zB ?_)
 refine sq rfl rfl hn rfl (zF rfl rfl) ?_
 refine zE (zA (zC (zB ?_)))
 refine stepW (zh rfl rfl rfl (nb hn rfl) Tryz.underlying22 sz3 zr3 rfl rfl rfl (show _ = [.d (.int .i64 0)] from by kernel_rfl) (by kernel_rfl) rfl rfl rfl rfl rfl) fun _ => ?_
 refine sq rfl rfl hn rfl (zv rfl bt44 rfl rfl rfl rfl rfl) ?_
 refine stepW (zi 1 rfl rfl rfl (nb hn rfl) zr44 rfl rfl) fun b1 => ?_
 refine stepW (zn rfl rfl rfl rfl rfl rfl (id := 1) rfl sz44 rfl (Nat.le_of_ble_eq_true rfl) rfl trivial) fun _ => ?_
 refine zE (zA (zC (zB ?_)))
 refine sq rfl rfl hn rfl (zZ rfl rfl (id := 1) rfl Tryz.underlying44 rfl sz44 rfl rfl sees0) ?_
 refine stepW (s_callE (zAC hnR 0 0) rfl rfl rfl (nb hn rfl) (.d rfl) rfl (by first | exact .refl _ | (repeat (first | exact .refl _ | exact .d (.nil _) | exact .nil _ | refine .cons ?_ ?_ | refine .d ?_ | refine .agg ?_ | refine .tup ?_))) trivial (fun _ => rfl) (fun _ _ => trivial)) fun x2 => ?_
 obtain ⟨he2, hh2⟩ := hn_ask x2
 rw [he2, hh2]
 refine sq rfl rfl hn rfl (zG rfl rfl) ?_
 refine sq rfl rfl hn rfl (zb rfl rfl rfl) ?_
 refine sq rfl rfl hn rfl (zb rfl rfl rfl) ?_
 refine stepW (zi 2 rfl rfl rfl (nb hn rfl) zr37 rfl rfl) fun b2 => ?_
 refine stepW (zn rfl rfl rfl rfl rfl rfl (id := 2) rfl sz37 rfl (Nat.le_of_ble_eq_true rfl) rfl trivial) fun _ => ?_
 refine sq rfl rfl hn rfl (zF rfl rfl) ?_
 refine zE (zA (zC (zB ?_)))
 refine sq rfl rfl hn rfl (zZ rfl rfl (id := 1) rfl Tryz.underlying44 rfl sz44 rfl rfl sees0) ?_
 refine stepW (zh rfl rfl rfl (nb hn rfl) Tryz.underlying30 sz4 zr4 rfl rfl rfl (show _ = [.d (.bool false), .d (.bool false)] from by kernel_rfl) (by kernel_rfl) rfl rfl rfl rfl rfl) fun _ => ?_
 refine sq rfl rfl hn rfl (zv rfl bt88 rfl rfl rfl rfl rfl) ?_
 refine stepW (zh rfl rfl rfl (nb hn rfl) Tryz.underlying48 sz88 zr88 rfl rfl rfl (show _ = [.d (.int .i64 0), .d (.int .i64 0), .d (.int .i64 0)] from by kernel_rfl) (by kernel_rfl) rfl rfl rfl rfl rfl) fun _ => ?_
 refine sq rfl rfl hn rfl (zv rfl bt50 rfl rfl rfl rfl rfl) ?_
 refine stepW (s_call [] (fun _ => (by have h6 := zAQ (hnL 1); rw [hn_1] at h6; exact h6)) rfl (zK rfl) rfl (nb hn rfl) (fun _ => trivial) rfl rfl (by first | exact .refl _ | (repeat (first | exact .refl _ | exact .nil _ | refine .cons ?_ ?_ | refine .agg ?_ | refine .tup ?_)))) fun _ => ?_
 refine sq rfl rfl hn rfl (zG rfl rfl) ?_
 refine sq rfl rfl hn rfl (zb rfl rfl rfl) ?_
 refine sq rfl rfl hn rfl (zb rfl rfl rfl) ?_
 refine sq rfl rfl hn rfl (zF rfl rfl) ?_
 refine sq rfl rfl hn rfl (zF rfl rfl) ?_
 refine zE (zA (zC (zB ?_)))
 refine sq rfl rfl hn rfl (zZ rfl rfl (id := 1) rfl Tryz.underlying44 rfl sz44 rfl rfl sees0) ?_
 refine stepW (zh rfl rfl rfl (nb hn rfl) Tryz.underlying30 sz4 zr4 rfl rfl rfl (show _ = [.d (.bool false), .d (.bool false)] from by kernel_rfl) (by kernel_rfl) rfl rfl rfl rfl rfl) fun _ => ?_
 refine sq rfl rfl hn rfl (zv rfl bt88 rfl rfl rfl rfl rfl) ?_
 refine stepW (zh rfl rfl rfl (nb hn rfl) Tryz.underlying48 sz88 zr88 rfl rfl rfl (show _ = [.d (.int .i64 0), .d (.int .i64 0), .d (.int .i64 0)] from by kernel_rfl) (by kernel_rfl) rfl rfl rfl rfl rfl) fun _ => ?_
 refine sq rfl rfl hn rfl (zv rfl bt50 rfl rfl rfl rfl rfl) ?_
 refine stepW (s_call [] (fun _ => (by have h6 := zAQ (hnL 2); rw [hn_2] at h6; exact h6)) rfl (zK rfl) rfl (nb hn rfl) (fun _ => trivial) rfl rfl (by first | exact .refl _ | (repeat (first | exact .refl _ | exact .nil _ | refine .cons ?_ ?_ | refine .agg ?_ | refine .tup ?_)))) fun _ => ?_
 refine sq rfl rfl hn rfl (zG rfl rfl) ?_
 refine sq rfl rfl hn rfl (zb rfl rfl rfl) ?_
 refine sq rfl rfl hn rfl (zb rfl rfl rfl) ?_
 refine sq rfl rfl hn rfl (zF rfl rfl) ?_
 refine sq rfl rfl hn rfl (zF rfl rfl) ?_
 refine zE (zA (zC (zB ?_)))
 refine sq rfl rfl hn rfl (zG rfl rfl) ?_
 refine sq rfl rfl hn rfl (yN rfl rfl rfl) ?_
 refine sq rfl rfl hn rfl (zG rfl rfl) ?_
 refine stepG [] (zD rfl rfl rfl) rfl (nb hn rfl) (fun hc => trivial) (fun hc => zZ rfl rfl (id := 2) rfl Tryz.underlying37 rfl sz37 rfl rfl sees0) ?_
 refine stepG [] (zD rfl rfl rfl) rfl (nb hn rfl) (fun hc => trivial) (fun hc => zv rfl bt37 rfl rfl rfl rfl rfl) ?_
 refine stepG [(36, _), (37, _)] (zD rfl rfl rfl) rfl (nb hn rfl) (fun hc => ⟨⟨_, rfl, hc⟩, ⟨_, rfl, hc⟩, trivial⟩) (fun hc => q_eql37 rfl rfl rfl) ?_
 refine sq rfl rfl hn rfl (yK rfl rfl rfl (by intro hB; first | (rw [hB]; rfl) | (rw [hB, hc]; rfl) | simp_all)) ?_
 refine sq rfl rfl hn rfl (zG rfl rfl) ?_
 refine stepG [] (zD rfl rfl rfl) rfl (nb hn rfl) (fun hc => trivial) (fun hc => zG rfl rfl) ?_
 refine stepG [(41, _)] (zD rfl rfl rfl) rfl (nb hn rfl) (fun hc => ⟨⟨_, rfl, hc⟩, trivial⟩) (fun hc => yN rfl rfl rfl) ?_
 refine sq rfl rfl hn rfl (yK rfl rfl rfl (by intro hB; first | (rw [hB]; rfl) | (rw [hB, hc]; rfl) | simp_all)) ?_
 refine sq rfl rfl hn rfl (zG rfl rfl) ?_
 refine stepG [] (zD rfl rfl rfl) rfl (nb hn rfl) (fun hc => trivial) (fun hc => zG rfl rfl) ?_
 refine stepG [(45, _)] (zD rfl rfl rfl) rfl (nb hn rfl) (fun hc => ⟨⟨_, rfl, hc⟩, trivial⟩) (fun hc => zy rfl rfl Tryz.underlying22) ?_
 refine stepG [(46, _)] (zD rfl rfl rfl) rfl (nb hn rfl) (fun hc => ⟨⟨_, rfl, hc⟩, trivial⟩) (fun hc => yN rfl rfl rfl) ?_
 refine sq rfl rfl hn rfl (yK rfl rfl rfl (by intro hB; first | (rw [hB]; rfl) | (rw [hB, hc]; rfl) | simp_all)) ?_
 refine sq rfl rfl hn rfl (zG rfl rfl) ?_
 refine stepG [] (zD rfl rfl rfl) rfl (nb hn rfl) (fun hc => trivial) (fun hc => zG rfl rfl) ?_
 refine stepG [(50, _)] (zD rfl rfl rfl) rfl (nb hn rfl) (fun hc => ⟨⟨_, rfl, hc⟩, trivial⟩) (fun hc => q_index (i := 0) rfl rfl rfl Tryz.underlying22 sz3 rfl rfl) ?_
 refine stepG [(51, _)] (zD rfl rfl rfl) rfl (nb hn rfl) (fun hc => ⟨⟨_, rfl, hc⟩, trivial⟩) (fun hc => zQ rfl rfl Tryz.underlying3 rfl seesF0) ?_
 refine stepG [(52, _)] (zD rfl rfl rfl) rfl (nb hn rfl) (fun hc => ⟨⟨_, rfl, hc⟩, trivial⟩) (fun hc => yN rfl rfl rfl) ?_
 refine sq rfl rfl hn rfl (yK rfl rfl rfl (by intro hB; first | (rw [hB]; rfl) | (rw [hB, hc]; rfl) | simp_all)) ?_
 refine sq rfl rfl hn rfl (zG rfl rfl) ?_
 refine stepG [] (zD rfl rfl rfl) rfl (nb hn rfl) (fun hc => trivial) (fun hc => zG rfl rfl) ?_
 refine stepG [(56, _)] (zD rfl rfl rfl) rfl (nb hn rfl) (fun hc => ⟨⟨_, rfl, hc⟩, trivial⟩) (fun hc => yN rfl rfl rfl) ?_
 refine sq rfl rfl hn rfl (yK rfl rfl rfl (by intro hB; first | (rw [hB]; rfl) | (rw [hB, hc]; rfl) | simp_all)) ?_
 refine sq rfl rfl hn rfl (zG rfl rfl) ?_
 refine stepG [] (zD rfl rfl rfl) rfl (nb hn rfl) (fun hc => trivial) (fun hc => zG rfl rfl) ?_
 refine stepG [(60, _)] (zD rfl rfl rfl) rfl (nb hn rfl) (fun hc => ⟨⟨_, rfl, hc⟩, trivial⟩) (fun hc => zy rfl rfl Tryz.underlying22) ?_
 refine stepG [(61, _)] (zD rfl rfl rfl) rfl (nb hn rfl) (fun hc => ⟨⟨_, rfl, hc⟩, trivial⟩) (fun hc => yN rfl rfl rfl) ?_
 refine sq rfl rfl hn rfl (yK rfl rfl rfl (by intro hB; first | (rw [hB]; rfl) | (rw [hB, hc]; rfl) | simp_all)) ?_
 refine sq rfl rfl hn rfl (zG rfl rfl) ?_
 refine stepG [] (zD rfl rfl rfl) rfl (nb hn rfl) (fun hc => trivial) (fun hc => zG rfl rfl) ?_
 refine stepG [(65, _)] (zD rfl rfl rfl) rfl (nb hn rfl) (fun hc => ⟨⟨_, rfl, hc⟩, trivial⟩) (fun hc => q_index (i := 0) rfl rfl rfl Tryz.underlying22 sz3 rfl rfl) ?_
 refine stepG [(66, _)] (zD rfl rfl rfl) rfl (nb hn rfl) (fun hc => ⟨⟨_, rfl, hc⟩, trivial⟩) (fun hc => zQ rfl rfl Tryz.underlying3 rfl seesF0) ?_
 refine stepG [(67, _)] (zD rfl rfl rfl) rfl (nb hn rfl) (fun hc => ⟨⟨_, rfl, hc⟩, trivial⟩) (fun hc => yN rfl rfl rfl) ?_
 refine sq rfl rfl hn rfl (yK rfl rfl rfl (by intro hB; first | (rw [hB]; rfl) | (rw [hB, hc]; rfl) | simp_all)) ?_
 refine sq rfl rfl hn rfl (zF rfl rfl) ?_
 refine zE (zA (zP ?_))
 refine zp (zq (.inl rfl) hl rfl (.tmp rfl)) ?_
 rfl
theorem TopHanded_ok (r : Reg) (u1 u2 u3 u4 : Nat) (hu1 : u1 < 256) (hu2 : u2 < 256) (hu3 : u3 < 256) (hu4 : u4 < 256) : PureAt Tryz.prog 3 [regD r, .int .u8 (u1 : Nat), .int .u8 (u2 : Nat), .int .u8 (u3 : Nat), .int .u8 (u4 : Nat)] (.bool true) := by
 refine PureAt.of_awp Tryz.func3 rfl (by kernel_rfl) (Nat.le_of_ble_eq_true rfl) fun Γ hn hl => ?_
 refine zC (zB ?_)
 refine stepW (zt 5 rfl rfl rfl (nb hn rfl) rfl rfl) fun b5 => ?_
 refine sq rfl rfl hn rfl (zF rfl rfl) ?_
 refine zE (zA (zC (zC ?_)))
 refine zz (zr (t := 5) 5 rfl (nb hn rfl) rfl rfl trivial) ?_
 refine zB ?_
 refine sq rfl rfl hn rfl (ze rfl rfl Tryz.underlying26 rfl sz26 rfl rfl seesF0) ?_
 refine stepW (s_call [] (fun _ => Thin_ok r) rfl (zK rfl) rfl (nb hn rfl) (fun _ => trivial) rfl rfl (.refl _)) fun _ => ?_
 refine sq rfl rfl hn rfl (yE rfl rfl) ?_
 refine sq rfl rfl hn rfl (zG rfl rfl) ?_
 refine stepG [] (zD rfl rfl rfl) rfl (nb hn rfl) (fun hc => trivial) (fun hc => ze rfl rfl Tryz.underlying26 rfl sz26 rfl rfl seesF0) ?_
 refine stepW (s_call [(22, _)] (fun hc => Fault_ok r) rfl (zD rfl rfl rfl) rfl (nb hn rfl) (fun hc => ⟨⟨_, rfl, hc⟩, trivial⟩) rfl rfl (.refl _)) fun _ => ?_
 refine stepG [(23, _)] (zD rfl rfl rfl) rfl (nb hn rfl) (fun hc => ⟨⟨_, rfl, hc⟩, trivial⟩) (fun hc => y7 rfl rfl rfl) ?_
 refine sq rfl rfl hn rfl (q_or rfl rfl rfl (by intro hB; first | (rw [hB]; rfl) | (rw [hB, hc]; rfl) | simp_all)) ?_
 refine sq rfl rfl hn rfl (zG rfl rfl) ?_
 refine stepG [] (zD rfl rfl rfl) rfl (nb hn rfl) (fun hc => trivial) (fun hc => zL rfl rfl Tryz.underlying26 rfl sz24 rfl) ?_
 refine stepG [(27, _)] (zD rfl rfl rfl) rfl (nb hn rfl) (fun hc => ⟨⟨_, rfl, hc⟩, trivial⟩) (fun hc => zQ rfl rfl Tryz.underlying24 rfl seesF0) ?_
 refine stepG [(28, _)] (zD rfl rfl rfl) rfl (nb hn rfl) (fun hc => ⟨⟨_, rfl, hc⟩, trivial⟩) (fun hc => zy rfl rfl Tryz.underlying24) ?_
 refine stepG [(29, _)] (zD rfl rfl rfl) rfl (nb hn rfl) (fun hc => ⟨⟨_, rfl, hc⟩, trivial⟩) (fun hc => kA rfl rfl rfl) ?_
 refine sq rfl rfl hn rfl (q_or rfl rfl rfl (by intro hB; first | (rw [hB]; rfl) | (rw [hB, hc]; rfl) | simp_all)) ?_
 refine sq rfl rfl hn rfl (zG rfl rfl) ?_
 refine stepG [] (zD rfl rfl rfl) rfl (nb hn rfl) (fun hc => trivial) (fun hc => zL rfl rfl Tryz.underlying26 rfl sz3 rfl) ?_
 refine stepG [(33, _)] (zD rfl rfl rfl) rfl (nb hn rfl) (fun hc => ⟨⟨_, rfl, hc⟩, trivial⟩) (fun hc => zQ rfl rfl Tryz.underlying3 rfl seesF0) ?_
 refine stepG [(34, _)] (zD rfl rfl rfl) rfl (nb hn rfl) (fun hc => ⟨⟨_, rfl, hc⟩, trivial⟩) (fun hc => yL rfl rfl rfl) ?_
 refine sq rfl rfl hn rfl (q_or rfl rfl rfl (by intro hB; first | (rw [hB]; rfl) | (rw [hB, hc]; rfl) | simp_all)) ?_
 refine zE (zA ?_)
 refine zR rfl (fun hb0 => ?_) (fun hb0 => ?_)
 ·
  refine zC (zB ?_)
  refine stepW (s_call [] (fun _ => zAK) rfl (zK rfl) rfl (nb hn rfl) (fun _ => trivial) rfl rfl (.refl _)) fun _ => ?_
  refine sq rfl rfl hn rfl (zF rfl rfl) ?_
  refine zE (zA (zP (zM ?_)))
  refine zp (zq (.inl rfl) hl rfl (.tmp rfl)) ?_
  rfl
 ·
  obtain ⟨hth, hc, hsl, hh2⟩ := top_or hb0
  rw [List.length_map] at hsl
  have hs0 : r.sights = [] := List.eq_nil_of_length_eq_zero (by omega)
  have v := kl hc
  have hh2 := of_decide_eq_false hh2
  have hh4 := v.h4
  have hH : r.houses = ((r.houses.toNat : Nat) : Int) := by omega
  have hH2 : 2 ≤ r.houses.toNat := by omega
  have hs4 := v.s4; have he6 := v.e6; have hg4 := v.g4
  have hA := Nat.mod_lt u1 (show 0 < r.houses.toNat by omega)
  have hB := Nat.mod_lt ((u1 % r.houses.toNat) + 1 + u2 % (r.houses.toNat - 1)) (show 0 < r.houses.toNat by omega)
  have hB1 := Nat.mod_lt u2 (show 0 < r.houses.toNat - 1 by omega)
  have hN9 : (u4 % 10) ≤ 9 := by omega
  have T : TopOK r (u4 % 10) r.houses.toNat ((u1 % r.houses.toNat) : Nat) ((((u1 % r.houses.toNat) + 1 + u2 % (r.houses.toNat - 1)) % r.houses.toNat) : Nat) ((1 + u3 % 4) : Nat) := ⟨v, hs0, hH, hN9, by omega, by omega, fun e => topB_ne (x := u2) hH2 hA (by omega), by omega⟩
  refine zT (zA (zC (zB ?_)))
  refine sq rfl rfl hn rfl (zG rfl rfl) ?_
  refine sq rfl rfl hn rfl (zCa rfl rfl Tryz.underlying5 Tryz.underlying3 (r := ((u1 : Nat) : Int)) (i64w (by omega) rfl)) ?_
  refine sq rfl rfl hn rfl (zL rfl rfl Tryz.underlying26 rfl sz3 rfl) ?_
  refine sq rfl rfl hn rfl (zQ rfl rfl Tryz.underlying3 rfl seesF0) ?_
  refine sq rfl rfl hn rfl (zCG rfl rfl rfl (r := (((u1 % r.houses.toNat) : Nat) : Int)) (by omega) (by rw [hH]; rfl)) ?_
  refine sq rfl rfl hn rfl (zF rfl rfl) ?_
  refine zE (zA (zC ?_))
  refine yF (e := .normal) (ι := Nat) (fun b12 => (12, true, .val (.pointer (some ⟨b12, 0, none⟩))) :: anys [43, 44, 45, 46, 47, 48, 49, 50]) (fun b12 => (12, .box b12 33 [.d (.int .i64 r.houses), .d (ints r.start), .d (entsD r.entries), .d (sightsD r.sights), .d (.int .i64 ((u4 % 10) : Nat)), .d (boolsD (List.replicate r.houses.toNat false)), .d .nil]) :: gones [1090]) (fun hJ1 => ?_) ?_
  ·
   refine z7 (W := fun b => True) fmo ?_
   refine d1q (i := 0) rfl (by kernel_rfl) (fun _ _ _ _ h => h) rfl rfl hn rfl (ze rfl rfl Tryz.underlying26 rfl sz26 rfl rfl seesFA) ?_
   refine d1q (i := 1) rfl (by kernel_rfl) (fun _ _ _ _ h => h) rfl rfl hn rfl (zG rfl rfl) ?_
   refine d1q (i := 2) rfl (by kernel_rfl) (fun _ _ _ _ h => h) rfl rfl hn rfl (zCa rfl rfl Tryz.underlying5 Tryz.underlying3 (r := ((u4 : Nat) : Int)) (i64w (by omega) rfl)) ?_
   refine d1q (i := 3) rfl (by kernel_rfl) (fun _ _ _ _ h => h) rfl rfl hn rfl (zCG rfl rfl rfl (r := (((u4 % 10) : Nat) : Int)) (by omega) rfl) ?_
   refine d1q (i := 4) rfl (by kernel_rfl) (fun _ _ _ _ h => h) rfl rfl hn rfl (zL rfl rfl Tryz.underlying26 rfl sz3 rfl) ?_
   refine d1q (i := 5) rfl (by kernel_rfl) (fun _ _ _ _ h => h) rfl rfl hn rfl (zQ rfl rfl Tryz.underlying3 rfl seesFA) ?_
   refine zN ?_
   refine kQ 6 [8] (by kernel_rfl) ⟨?_, ?_, trivial⟩
   ·
    refine br rfl (y5 (n := r.houses.toNat) 1090 rfl rfl rfl (nb hn rfl) Tryz.underlying30 (show _ = some (some (.bool false), 1, 1) from by kernel_rfl) rfl rfl rfl (by decide) rfl rfl hH hH (by omega) (by omega) (by omega)) fun b49 => ?_
    refine d2_of_d1 ?_
    refine zDz (g_freezeVK (t := 49) (sz := 1) (n := r.houses.toNat) (ds := ((List.replicate r.houses.toNat false).map boolE).flatten) (es := (List.replicate r.houses.toNat false).map boolE) (rest := []) 1090 rfl rfl (by rw [List.append_nil]; exact zDq _) (by rw [zAy zAA, List.length_map, List.length_replicate]) (by have := kh (k := 1) (rows := (List.replicate r.houses.toNat false).map boolE) zAA; rw [List.length_map, List.length_replicate] at this; exact this) (Nat.le_refl _) (by simp only [maxLen]; omega)) ?_
    refine d1q (i := 7) rfl (by kernel_rfl) (fun _ _ _ _ h => h) rfl rfl hn rfl (zv rfl bt33 rfl rfl rfl rfl rfl) ?_
    refine zN ?_
    refine zj (i := 8) (by kernel_rfl) rfl (zi 12 rfl rfl rfl (nb hn rfl) zr33 rfl rfl) fun b12 => ?_
    refine d2_of_d1 (zN ?_)
    refine zj (i := 9) (by kernel_rfl) rfl (zn rfl rfl rfl rfl rfl rfl (id := 12) rfl sz33 rfl (Nat.le_of_ble_eq_true rfl) rfl trivial) fun _ => ?_
    refine d2_of_d1 (zN ?_)
    refine zu (by kernel_rfl) ?_
    exact aend_join_on hJ1 b12 ⟨.inl rfl, zI _⟩ ⟨.inl rfl, zW _⟩ (by repeat (first | exact kr _ | refine kc rfl ?_)) (by repeat (first | exact kr _ | refine kc rfl ?_))
   ·
    refine br rfl (zi 12 rfl rfl rfl (nb hn rfl) zr33 rfl rfl) fun b12 => ?_
    refine d2_of_d1 (zN ?_)
    refine zj (i := 6) (by kernel_rfl) rfl (y5 (n := r.houses.toNat) 1090 rfl rfl rfl (nb hn rfl) Tryz.underlying30 (show _ = some (some (.bool false), 1, 1) from by kernel_rfl) rfl rfl rfl (by decide) rfl rfl hH hH (by omega) (by omega) (by omega)) fun b49 => ?_
    refine d2_of_d1 ?_
    refine zDz (g_freezeVK (t := 49) (sz := 1) (n := r.houses.toNat) (ds := ((List.replicate r.houses.toNat false).map boolE).flatten) (es := (List.replicate r.houses.toNat false).map boolE) (rest := []) 1090 rfl rfl (by rw [List.append_nil]; exact zDq _) (by rw [zAy zAA, List.length_map, List.length_replicate]) (by have := kh (k := 1) (rows := (List.replicate r.houses.toNat false).map boolE) zAA; rw [List.length_map, List.length_replicate] at this; exact this) (Nat.le_refl _) (by simp only [maxLen]; omega)) ?_
    refine d1q (i := 7) rfl (by kernel_rfl) (fun _ _ _ _ h => h) rfl rfl hn rfl (zv rfl bt33 rfl rfl rfl rfl rfl) ?_
    refine zN ?_
    refine zj (i := 9) (by kernel_rfl) rfl (zn rfl rfl rfl rfl rfl rfl (id := 12) rfl sz33 rfl (Nat.le_of_ble_eq_true rfl) rfl trivial) fun _ => ?_
    refine d2_of_d1 (zN ?_)
    refine zu (by kernel_rfl) ?_
    exact aend_join_on hJ1 b12 ⟨.inl rfl, zI _⟩ ⟨.inl rfl, zW _⟩ (by repeat (first | exact kr _ | refine kc rfl ?_)) (by repeat (first | exact kr _ | refine kc rfl ?_))
  ·
   rintro b12
   refine zA (zC ?_)
   refine z7 (W := fun b => True) fmo ?_
   refine d1q (i := 0) rfl (by kernel_rfl) (fun _ _ _ _ h => h) rfl rfl hn rfl (zG rfl rfl) ?_
   refine d1q (i := 1) rfl (by kernel_rfl) (fun _ _ _ _ h => h) rfl rfl hn rfl (zG rfl rfl) ?_
   refine d1q (i := 2) rfl (by kernel_rfl) (fun _ _ _ _ h => h) rfl rfl hn rfl (z6 rfl rfl rfl (r := (((u1 % r.houses.toNat) + 1 : Nat) : Int)) (i64w (by omega) (by omega))) ?_
   refine d1q (i := 3) rfl (by kernel_rfl) (fun _ _ _ _ h => h) rfl rfl hn rfl (zG rfl rfl) ?_
   refine d1q (i := 4) rfl (by kernel_rfl) (fun _ _ _ _ h => h) rfl rfl hn rfl (zCa rfl rfl Tryz.underlying5 Tryz.underlying3 (r := ((u2 : Nat) : Int)) (i64w (by omega) rfl)) ?_
   refine d1q (i := 5) rfl (by kernel_rfl) (fun _ _ _ _ h => h) rfl rfl hn rfl (zL rfl rfl Tryz.underlying26 rfl sz3 rfl) ?_
   refine d1q (i := 6) rfl (by kernel_rfl) (fun _ _ _ _ h => h) rfl rfl hn rfl (zQ rfl rfl Tryz.underlying3 rfl seesFA) ?_
   refine d1q (i := 7) rfl (by kernel_rfl) (fun _ _ _ _ h => h) rfl rfl hn rfl (zAO rfl rfl rfl (r := ((r.houses.toNat - 1 : Nat) : Int)) (by rw [hH]; exact i64w (by omega) (by omega))) ?_
   refine d1q (i := 8) rfl (by kernel_rfl) (fun _ _ _ _ h => h) rfl rfl hn rfl (zCG rfl rfl rfl (r := ((u2 % (r.houses.toNat - 1) : Nat) : Int)) (by omega) rfl) ?_
   refine d1q (i := 9) rfl (by kernel_rfl) (fun _ _ _ _ h => h) rfl rfl hn rfl (z6 rfl rfl rfl (r := (((u1 % r.houses.toNat) + 1 + u2 % (r.houses.toNat - 1) : Nat) : Int)) (i64w (by omega) (by omega))) ?_
   refine d1q (i := 10) rfl (by kernel_rfl) (fun _ _ _ _ h => h) rfl rfl hn rfl (zL rfl rfl Tryz.underlying26 rfl sz3 rfl) ?_
   refine d1q (i := 11) rfl (by kernel_rfl) (fun _ _ _ _ h => h) rfl rfl hn rfl (zQ rfl rfl Tryz.underlying3 rfl seesFA) ?_
   refine d1q (i := 12) rfl (by kernel_rfl) (fun _ _ _ _ h => h) rfl rfl hn rfl (zCG rfl rfl rfl (r := (((((u1 % r.houses.toNat) + 1 + u2 % (r.houses.toNat - 1)) % r.houses.toNat) : Nat) : Int)) (by omega) (by rw [hH]; rfl)) ?_
   refine d1q (i := 13) rfl (by kernel_rfl) (fun _ _ _ _ h => h) rfl rfl hn rfl (zG rfl rfl) ?_
   refine d1q (i := 14) rfl (by kernel_rfl) (fun _ _ _ _ h => h) rfl rfl hn rfl (zCa rfl rfl Tryz.underlying5 Tryz.underlying3 (r := ((u3 : Nat) : Int)) (i64w (by omega) rfl)) ?_
   refine d1q (i := 15) rfl (by kernel_rfl) (fun _ _ _ _ h => h) rfl rfl hn rfl (zCG rfl rfl rfl (r := ((u3 % 4 : Nat) : Int)) (by omega) rfl) ?_
   refine d1q (i := 16) rfl (by kernel_rfl) (fun _ _ _ _ h => h) rfl rfl hn rfl (z6 rfl rfl rfl (r := (((1 + u3 % 4) : Nat) : Int)) (i64w (by omega) (by omega))) ?_
   refine d1q (i := 17) rfl (by kernel_rfl) (fun _ _ _ _ h => h) rfl rfl hn rfl (zv rfl bt35 rfl rfl rfl rfl rfl) ?_
   refine zN ?_
   refine zj (i := 18) (by kernel_rfl) rfl (zh rfl rfl rfl (nb hn rfl) Tryz.underlying31 sz35 zr35 rfl rfl rfl (show _ = [.d (.int .i64 0), .d (.int .i64 0), .d (.int .i64 0)] from by kernel_rfl) (by kernel_rfl) rfl rfl rfl rfl rfl) fun _ => ?_
   refine d2_of_d1 ?_
   refine d1q (i := 19) rfl (by kernel_rfl) (fun _ _ _ _ h => h) rfl rfl hn rfl (zH rfl rfl Tryz.underlying33 rfl sz31) ?_
   refine zN ?_
   refine zj (i := 20) (by kernel_rfl) rfl (s_store1 rfl rfl rfl rfl rfl rfl (id := 12) rfl sz31 (Nat.le_of_ble_eq_true rfl) rfl trivial) fun _ => ?_
   refine d2_of_d1 (zN ?_)
   refine zu (by kernel_rfl) ?_
   refine zA (zC ?_)
   refine zz (zr (t := 12) 12 rfl (nb hn rfl) rfl rfl trivial) ?_
   refine yF (e := .normal) (ι := AskX r (houseB r ((u1 % r.houses.toNat) : Nat)) ((u4 % 10) : Nat) × Nat) (fun x => (13, true, .val (.pointer (some ⟨x.2, 0, none⟩))) :: (14, true, .d (.int .i64 x.1.1.2)) :: anys [72, 73, 74, 75, 76, 77, 71, 78, 79]) (fun x => [(13, .box x.2 37 [.d (.int .i64 (heldR r ((u1 % r.houses.toNat) : Nat) x.1.1.1).1), .d (.int .i64 (heldR r ((u1 % r.houses.toNat) : Nat) x.1.1.1).2)])]) (fun hJ2 => ?_) ?_
   ·
    refine z7 (W := fun b => True) fmo ?_
    refine d1q (i := 0) rfl (by kernel_rfl) (fun _ _ _ _ h => h) rfl rfl hn rfl (ze rfl rfl Tryz.underlying26 rfl sz26 rfl rfl seesFA) ?_
    refine d1q (i := 2) rfl (by kernel_rfl) (fun _ _ _ _ h => h) rfl rfl hn rfl (zG rfl rfl) ?_
    refine d1q (i := 3) rfl (by kernel_rfl) (fun _ _ _ _ h => h) rfl rfl hn rfl (zL rfl rfl Tryz.underlying33 rfl sz3 rfl) ?_
    refine d1q (i := 4) rfl (by kernel_rfl) (fun _ _ _ _ h => h) rfl rfl hn rfl (zQ rfl rfl Tryz.underlying3 rfl seesFA) ?_
    refine zN ?_
    refine kQ 1 [9] (by kernel_rfl) ⟨?_, ?_, trivial⟩
    ·
     refine br rfl (s_call [] (fun _ => kS r (by omega) (by omega) (by omega)) rfl (zK rfl) rfl (nb hn rfl) (fun _ => trivial) rfl rfl (.refl _)) fun _ => ?_
     refine d2_of_d1 (zN ?_)
     refine kQ 5 [9] (by kernel_rfl) ⟨?_, ?_, trivial⟩
     ·
      refine br rfl (s_callE (zAC r ((u1 % r.houses.toNat) : Nat) ((u4 % 10) : Nat)) rfl rfl rfl (nb hn rfl) (.d rfl) rfl (.refl _) trivial (fun _ => rfl) (fun _ _ => trivial)) fun x6 => ?_
      refine d2_of_d1 ?_
      refine d1q (i := 6) rfl (by kernel_rfl) (fun _ _ _ _ h => h) rfl rfl hn rfl (zG rfl rfl) ?_
      refine d1q (i := 7) rfl (by kernel_rfl) (fun _ _ _ _ h => h) rfl rfl hn rfl (zb rfl rfl rfl) ?_
      refine d1q (i := 8) rfl (by kernel_rfl) (fun _ _ _ _ h => h) rfl rfl hn rfl (zb rfl rfl rfl) ?_
      refine zN ?_
      refine zj (i := 9) (by kernel_rfl) rfl (zi 13 rfl rfl rfl (nb hn rfl) zr37 rfl rfl) fun b13 => ?_
      refine d2_of_d1 (zN ?_)
      refine zj (i := 10) (by kernel_rfl) rfl (zn rfl rfl rfl rfl rfl rfl (id := 13) rfl sz37 rfl (Nat.le_of_ble_eq_true rfl) rfl trivial) fun _ => ?_
      refine d2_of_d1 ?_
      refine d1q (i := 11) rfl (by kernel_rfl) (fun _ _ _ _ h => h) rfl rfl hn rfl (zF rfl rfl) ?_
      refine zN ?_
      refine zu (by kernel_rfl) ?_
      exact aend_join_on hJ2 (x6, b13) ⟨.inl rfl, .inl rfl, zI _⟩ ⟨.inl rfl, trivial⟩ (by repeat (first | exact kr _ | refine kc rfl ?_)) (by repeat (first | exact kr _ | refine kc rfl ?_))
     ·
      refine br rfl (zi 13 rfl rfl rfl (nb hn rfl) zr37 rfl rfl) fun b13 => ?_
      refine d2_of_d1 (zN ?_)
      refine zj (i := 5) (by kernel_rfl) rfl (s_callE (zAC r ((u1 % r.houses.toNat) : Nat) ((u4 % 10) : Nat)) rfl rfl rfl (nb hn rfl) (.d rfl) rfl (.refl _) trivial (fun _ => rfl) (fun _ _ => trivial)) fun x6 => ?_
      refine d2_of_d1 ?_
      refine d1q (i := 6) rfl (by kernel_rfl) (fun _ _ _ _ h => h) rfl rfl hn rfl (zG rfl rfl) ?_
      refine d1q (i := 7) rfl (by kernel_rfl) (fun _ _ _ _ h => h) rfl rfl hn rfl (zb rfl rfl rfl) ?_
      refine d1q (i := 8) rfl (by kernel_rfl) (fun _ _ _ _ h => h) rfl rfl hn rfl (zb rfl rfl rfl) ?_
      refine zN ?_
      refine zj (i := 10) (by kernel_rfl) rfl (zn rfl rfl rfl rfl rfl rfl (id := 13) rfl sz37 rfl (Nat.le_of_ble_eq_true rfl) rfl trivial) fun _ => ?_
      refine d2_of_d1 ?_
      refine d1q (i := 11) rfl (by kernel_rfl) (fun _ _ _ _ h => h) rfl rfl hn rfl (zF rfl rfl) ?_
      refine zN ?_
      refine zu (by kernel_rfl) ?_
      exact aend_join_on hJ2 (x6, b13) ⟨.inl rfl, .inl rfl, zI _⟩ ⟨.inl rfl, trivial⟩ (by repeat (first | exact kr _ | refine kc rfl ?_)) (by repeat (first | exact kr _ | refine kc rfl ?_))
    ·
     refine br rfl (zi 13 rfl rfl rfl (nb hn rfl) zr37 rfl rfl) fun b13 => ?_
     refine d2_of_d1 (zN ?_)
     refine zj (i := 1) (by kernel_rfl) rfl (s_call [] (fun _ => kS r (by omega) (by omega) (by omega)) rfl (zK rfl) rfl (nb hn rfl) (fun _ => trivial) rfl rfl (.refl _)) fun _ => ?_
     refine d2_of_d1 (zN ?_)
     refine zj (i := 5) (by kernel_rfl) rfl (s_callE (zAC r ((u1 % r.houses.toNat) : Nat) ((u4 % 10) : Nat)) rfl rfl rfl (nb hn rfl) (.d rfl) rfl (.refl _) trivial (fun _ => rfl) (fun _ _ => trivial)) fun x6 => ?_
     refine d2_of_d1 ?_
     refine d1q (i := 6) rfl (by kernel_rfl) (fun _ _ _ _ h => h) rfl rfl hn rfl (zG rfl rfl) ?_
     refine d1q (i := 7) rfl (by kernel_rfl) (fun _ _ _ _ h => h) rfl rfl hn rfl (zb rfl rfl rfl) ?_
     refine d1q (i := 8) rfl (by kernel_rfl) (fun _ _ _ _ h => h) rfl rfl hn rfl (zb rfl rfl rfl) ?_
     refine zN ?_
     refine zj (i := 10) (by kernel_rfl) rfl (zn rfl rfl rfl rfl rfl rfl (id := 13) rfl sz37 rfl (Nat.le_of_ble_eq_true rfl) rfl trivial) fun _ => ?_
     refine d2_of_d1 ?_
     refine d1q (i := 11) rfl (by kernel_rfl) (fun _ _ _ _ h => h) rfl rfl hn rfl (zF rfl rfl) ?_
     refine zN ?_
     refine zu (by kernel_rfl) ?_
     exact aend_join_on hJ2 (x6, b13) ⟨.inl rfl, .inl rfl, zI _⟩ ⟨.inl rfl, trivial⟩ (by repeat (first | exact kr _ | refine kc rfl ?_)) (by repeat (first | exact kr _ | refine kc rfl ?_))
   ·
    rintro ⟨x6, b13⟩
    dsimp only
    refine zA (zC (zB ?_))
    refine sq rfl rfl hn rfl (ze rfl rfl Tryz.underlying33 rfl sz33 rfl rfl seesF0) ?_
    refine stepW (s_call [] (fun _ => Ledger_ok (topL r (u4 % 10) r.houses.toNat ((u1 % r.houses.toNat) : Nat) ((((u1 % r.houses.toNat) + 1 + u2 % (r.houses.toNat - 1)) % r.houses.toNat) : Nat) ((1 + u3 % 4) : Nat)) (by show r.start.length ≤ _; omega) (by show r.entries.length ≤ _; omega) (by show r.sights.length ≤ _; omega) (by show 1 ≤ _; omega) (by show (List.replicate _ _).length ≤ _; rw [List.length_replicate]; omega)) rfl (zK rfl) rfl (nb hn rfl) (fun _ => trivial) rfl rfl (.refl _)) fun _ => ?_
    refine stepW (s_call [] (fun _ => zAQ (topL r (u4 % 10) r.houses.toNat ((u1 % r.houses.toNat) : Nat) ((((u1 % r.houses.toNat) + 1 + u2 % (r.houses.toNat - 1)) % r.houses.toNat) : Nat) ((1 + u3 % 4) : Nat))) rfl (zK rfl) rfl (nb hn rfl) (fun _ => trivial) rfl rfl (.refl _)) fun _ => ?_
    refine sq rfl rfl hn rfl (zG rfl rfl) ?_
    refine sq rfl rfl hn rfl (zb rfl rfl rfl) ?_
    refine sq rfl rfl hn rfl (zb rfl rfl rfl) ?_
    refine sq rfl rfl hn rfl (zF rfl rfl) ?_
    refine sq rfl rfl hn rfl (zF rfl rfl) ?_
    refine zE (zA (zC (zC ?_)))
    have his : houseB r (((u1 % r.houses.toNat) : Nat) : Int) = true := by (rw [yJ v.h1 v.h4, decide_eq_true (by omega), decide_eq_true (by omega)]; rfl)
    obtain ⟨hev, her⟩ := zEa v his hN9 x6.2
    refine zB ?_
    refine sq rfl rfl hn rfl (zG rfl rfl) ?_
    refine sq rfl rfl hn rfl (y7 rfl rfl rfl) ?_
    refine zE (zA ?_)
    refine zR rfl (fun hb3 => ?_) (fun hb3 => ?_)
    ·
     have hnil : allDays r = [] := by (by_cases h : allDays r = []; exact h; rw [if_neg h] at her; rw [her] at hb3; simp at hb3)
     rw [if_pos hnil] at her
     have hk : knownR (topL r (u4 % 10) r.houses.toNat ((u1 % r.houses.toNat) : Nat) ((((u1 % r.houses.toNat) + 1 + u2 % (r.houses.toNat - 1)) % r.houses.toNat) : Nat) ((1 + u3 % 4) : Nat)) = ([], 9) := zAx (zD6 T.lok) (by rw [zAg T]; exact (zDG v hN9).2 hnil)
     have e2 := verdX_bad (l := (topL r (u4 % 10) r.houses.toNat ((u1 % r.houses.toNat) : Nat) ((((u1 % r.houses.toNat) + 1 + u2 % (r.houses.toNat - 1)) % r.houses.toNat) : Nat) ((1 + u3 % 4) : Nat))) (by rw [hk]; decide)
     refine zC (zB ?_)
     refine sq rfl rfl hn rfl (zG rfl rfl) ?_
     refine sq rfl rfl hn rfl (yN rfl rfl rfl) ?_
     refine sq rfl rfl hn rfl (zG rfl rfl) ?_
     refine stepG [] (zD rfl rfl rfl) rfl (nb hn rfl) (fun hc => trivial) (fun hc => zG rfl rfl) ?_
     refine stepG [] (zD rfl rfl rfl) rfl (nb hn rfl) (fun hc => trivial) (fun hc => zG rfl rfl) ?_
     refine stepG [(91, _), (92, _)] (zD rfl rfl rfl) rfl (nb hn rfl) (fun hc => ⟨⟨_, rfl, hc⟩, ⟨_, rfl, hc⟩, trivial⟩) (fun hc => yN rfl rfl rfl) ?_
     refine sq rfl rfl hn rfl (yK rfl rfl rfl (by intro hB; first | (rw [hB]; rfl) | (rw [hB, hc]; rfl) | simp_all)) ?_
     refine sq rfl rfl hn rfl (zG rfl rfl) ?_
     refine stepW (s_call [] (fun hc => zAK) rfl (zD rfl rfl rfl) rfl (nb hn rfl) (fun hc => trivial) rfl rfl (.refl _)) fun _ => ?_
     refine sq rfl rfl hn rfl (yK rfl rfl rfl (by intro hB; first | (rw [hB]; rfl) | (rw [hB, hc]; rfl) | simp_all)) ?_
     refine sq rfl rfl hn rfl (zF rfl rfl) ?_
     refine zE (zA (zP (zM ?_)))
     refine zp (zq (.inl rfl) hl rfl (.tmp rfl)) ?_
     rw [e2, hk, her]; rfl
    ·
     have hnn : allDays r ≠ [] := fun h => by (rw [if_pos h] at her; rw [her] at hb3; simp at hb3)
     have hv := top_verd T hnn
     have hheld := zEf (a := (((u1 % r.houses.toNat) : Nat) : Int)) v hN9 (fun e => hnn ((zBi v hN9 hev).1 e)) hev
     refine zT (zA (zC (zC (zB ?_))))
     refine sq rfl rfl hn rfl (zG rfl rfl) ?_
     refine sq rfl rfl hn rfl (y7 rfl rfl rfl) ?_
     refine sq rfl rfl hn rfl (zG rfl rfl) ?_
     refine stepG [] (zD rfl rfl rfl) rfl (nb hn rfl) (fun hc => trivial) (fun hc => zG rfl rfl) ?_
     refine stepG [(101, _)] (zD rfl rfl rfl) rfl (nb hn rfl) (fun hc => ⟨⟨_, rfl, hc⟩, trivial⟩) (fun hc => zy rfl rfl Tryz.underlying22) ?_
     refine stepG [(102, _)] (zD rfl rfl rfl) rfl (nb hn rfl) (fun hc => ⟨⟨_, rfl, hc⟩, trivial⟩) (fun hc => y7 rfl rfl rfl) ?_
     refine sq rfl rfl hn rfl (q_or rfl rfl rfl (by intro hB; first | (rw [hB]; rfl) | (rw [hB, hc]; rfl) | simp_all)) ?_
     refine zE (zA ?_)
     refine zR rfl (fun hb4 => ?_) (fun hb4 => ?_)
     ·
      rw [hv] at hb4; simp at hb4
     ·
      refine zT (zA (zC (zB ?_)))
      refine sq rfl rfl hn rfl (zF rfl rfl) ?_
      refine zE (zA (zC (zC ?_)))
      refine z7 (W := fun b => b ≠ b13) fmo ?_
      refine d1q (i := 0) rfl (by kernel_rfl) (fun _ _ _ _ h => h) rfl rfl hn rfl (zH rfl rfl Tryz.underlying37 rfl sz3) ?_
      refine d1q (i := 1) rfl (by kernel_rfl) (fun _ _ _ _ h => h) rfl rfl hn rfl (zO rfl rfl (id := 13) rfl Tryz.underlying3 rfl rfl (seesA (by simp))) ?_
      refine d1q (i := 2) rfl (by kernel_rfl) (fun _ _ _ _ h => h) rfl rfl hn rfl (zL rfl rfl Tryz.underlying33 rfl sz31 rfl) ?_
      refine d1q (i := 3) rfl (by kernel_rfl) (fun _ _ _ _ h => h) rfl rfl hn rfl (zQ rfl rfl Tryz.underlying31 rfl seesFA) ?_
      refine d1q (i := 4) rfl (by kernel_rfl) (fun _ _ _ _ h => h) rfl rfl hn rfl (q_index (i := 0) rfl rfl rfl Tryz.underlying31 sz35 rfl rfl) ?_
      refine d1q (i := 5) rfl (by kernel_rfl) (fun _ _ _ _ h => h) rfl rfl hn rfl (zL rfl rfl Tryz.underlying35 rfl sz3 rfl) ?_
      refine d1q (i := 6) rfl (by kernel_rfl) (fun _ _ _ _ h => h) rfl rfl hn rfl (zQ rfl rfl Tryz.underlying3 rfl seesFA) ?_
      refine d1q (i := 7) rfl (by kernel_rfl) (fun _ _ _ _ h => h) rfl rfl hn rfl (zBy rfl rfl rfl) ?_
      refine zN ?_
      refine zu (by kernel_rfl) ?_
      refine zA ?_
      refine yF (e := .normal) (ι := Unit) (fun u0 => [(17, true, .d (.int .i64 (if (((1 + u3 % 4) : Nat) : Int) ≤ (refInHand r (allDays r) ((u1 % r.houses.toNat) : Nat) (u4 % 10)).1 then 1 else 3)))]) (fun u0 => []) (fun hJ5 => ?_) ?_
      ·
       refine zR rfl (fun hb5 => ?_) (fun hb5 => ?_)
       ·
        have q3 := of_decide_eq_true hb5
        rw [hheld] at q3
        refine zB ?_
        refine sq rfl rfl hn rfl (zF rfl rfl) ?_
        refine zE ?_
        exact aend_join_on hJ5 () ⟨.inl (congrArg (fun z : Int => some (true, TV.d (.int .i64 z))) (if_pos q3).symm), trivial⟩ trivial (by repeat (first | exact kr _ | refine kc rfl ?_)) (by repeat (first | exact kr _ | refine kc rfl ?_))
       ·
        have q3 := of_decide_eq_false hb5
        rw [hheld] at q3
        refine zT ?_
        exact aend_join_on hJ5 () ⟨.inl (congrArg (fun z : Int => some (true, TV.d (.int .i64 z))) (if_neg q3).symm), trivial⟩ trivial (by repeat (first | exact kr _ | refine kc rfl ?_)) (by repeat (first | exact kr _ | refine kc rfl ?_))
      ·
       rintro _
       refine zA (zC (zC ?_))
       refine z7 (W := fun b => b ≠ b13) fmo ?_
       refine d1q (i := 0) rfl (by kernel_rfl) (fun _ _ _ _ h => h) rfl rfl hn rfl (zH rfl rfl Tryz.underlying37 rfl sz3) ?_
       refine d1q (i := 1) rfl (by kernel_rfl) (fun _ _ _ _ h => h) rfl rfl hn rfl (zO rfl rfl (id := 13) rfl Tryz.underlying3 rfl rfl (seesA (by simp))) ?_
       refine d1q (i := 2) rfl (by kernel_rfl) (fun _ _ _ _ h => h) rfl rfl hn rfl (zL rfl rfl Tryz.underlying33 rfl sz31 rfl) ?_
       refine d1q (i := 3) rfl (by kernel_rfl) (fun _ _ _ _ h => h) rfl rfl hn rfl (zQ rfl rfl Tryz.underlying31 rfl seesFA) ?_
       refine d1q (i := 4) rfl (by kernel_rfl) (fun _ _ _ _ h => h) rfl rfl hn rfl (q_index (i := 0) rfl rfl rfl Tryz.underlying31 sz35 rfl rfl) ?_
       refine d1q (i := 5) rfl (by kernel_rfl) (fun _ _ _ _ h => h) rfl rfl hn rfl (zL rfl rfl Tryz.underlying35 rfl sz3 rfl) ?_
       refine d1q (i := 6) rfl (by kernel_rfl) (fun _ _ _ _ h => h) rfl rfl hn rfl (zQ rfl rfl Tryz.underlying3 rfl seesFA) ?_
       refine d1q (i := 7) rfl (by kernel_rfl) (fun _ _ _ _ h => h) rfl rfl hn rfl (yL rfl rfl rfl) ?_
       refine zN ?_
       refine zu (by kernel_rfl) ?_
       refine zA ?_
       refine yF (e := .normal) (ι := Unit) (fun u0 => [(17, true, .d (.int .i64 (topV (refInHand r (allDays r) ((u1 % r.houses.toNat) : Nat) (u4 % 10)).1 (refInHand r (allDays r) ((u1 % r.houses.toNat) : Nat) (u4 % 10)).2 ((1 + u3 % 4) : Nat))))]) (fun u0 => []) (fun hJ6 => ?_) ?_
       ·
        refine zR rfl (fun hb6 => ?_) (fun hb6 => ?_)
        ·
         have q4 := of_decide_eq_true hb6
         rw [hheld] at q4
         refine zB ?_
         refine sq rfl rfl hn rfl (zF rfl rfl) ?_
         refine zE ?_
         exact aend_join_on hJ6 () ⟨.inl (congrArg (fun z : Int => some (true, TV.d (.int .i64 z))) (if_pos q4).symm), trivial⟩ trivial (by repeat (first | exact kr _ | refine kc rfl ?_)) (by repeat (first | exact kr _ | refine kc rfl ?_))
        ·
         have q4 := of_decide_eq_false hb6
         rw [hheld] at q4
         refine zT ?_
         exact aend_join_on hJ6 () ⟨.inl (congrArg (fun z : Int => some (true, TV.d (.int .i64 z))) (if_neg q4).symm), trivial⟩ trivial (by repeat (first | exact kr _ | refine kc rfl ?_)) (by repeat (first | exact kr _ | refine kc rfl ?_))
       ·
        rintro _
        refine zA (zC (zB ?_))
        refine sq rfl rfl hn rfl (zG rfl rfl) ?_
        refine sq rfl rfl hn rfl (q_index (i := 0) rfl rfl rfl Tryz.underlying22 sz3 rfl (by rw [hv]; rfl)) ?_
        refine sq rfl rfl hn rfl (zQ rfl rfl Tryz.underlying3 rfl seesF0) ?_
        refine sq rfl rfl hn rfl (zG rfl rfl) ?_
        refine sq rfl rfl hn rfl (yN rfl rfl rfl) ?_
        refine sq rfl rfl hn rfl (zG rfl rfl) ?_
        refine stepW (s_call [] (fun hc => zAK) rfl (zD rfl rfl rfl) rfl (nb hn rfl) (fun hc => trivial) rfl rfl (.refl _)) fun _ => ?_
        refine sq rfl rfl hn rfl (yK rfl rfl rfl (by intro hB; first | (rw [hB]; rfl) | (rw [hB, hc]; rfl) | simp_all)) ?_
        refine sq rfl rfl hn rfl (zF rfl rfl) ?_
        refine zE (zA (zP ?_))
        refine zp (zq (.inl rfl) hl rfl (.tmp rfl)) ?_
        simp
end Go.Proofs.YtaokpncjemkhcaaGreat
namespace Go.Proofs.YtaokpncjemkhcaaGreat
open Go.ChangeShapes Go.WideShapes Go.ChangeAt Go.RowKit
set_option linter.all false
theorem TopHanded_pure (xs : List D) (h : Sat [SReg, SU8, SU8, SU8, SU8] xs) : PureAt Tryz.prog 3 xs (.bool true) := by
  obtain ⟨_, _, rfl, ⟨a1, rfl⟩, _, _, rfl, ⟨a2, rfl, h2⟩, _, _, rfl, ⟨a3, rfl, h3⟩, _, _, rfl, ⟨a4, rfl, h4⟩, _, _, rfl, ⟨a5, rfl, h5⟩, rfl⟩ := h
  exact TopHanded_ok a1 a2 a3 a4 a5 h2 h3 h4 h5
set_option maxRecDepth 100000 in
theorem topHanded_lifted (os : Os) (started : os.Started) (H : Type) (enc : TypeId × Value → H) :
    ReturnsInHanded {} Tryz.checked os 3 .any (Rows.topHandedSpec.pre6 enc Tryz.prog Tryz.f3 Rows.topHandedRow.domain false) (Rows.topHandedSpec.post enc Tryz.prog Tryz.f3 false true false false) := by
  refine returnsInHanded_of_change_sized (C := Tryz.checked) own started (by kernel_rfl) Tryz.func3
    (ChangeSpec.witness6 (enc := enc) (C := Tryz.checked) false ⟨#[], #[.agg #[.int .i64 0, .slice none 0 0, .slice none 0 0, .slice none 0 0], .int .u8 0, .int .u8 0, .int .u8 0, .int .u8 0], []⟩ 8 (by kernel_rfl) (by kernel_rfl) (by kernel_rfl) (by kernel_rfl)) ?_
  intro W base args ds gs before hval hW _ hz _
  exact law_contract (ts := [26, 5, 5, 5, 5]) (Ss := [SReg, SU8, SU8, SU8, SU8]) laidOut (by rw [Tryz.params3]) (by kernel_rfl) (by kernel_rfl) Tryz.underlying4 rfl rfl
    (fun ds h => by match ds, h with | [d1, d2, d3, d4, d5], _ => rfl) ⟨pReg, pU8, pU8, pU8, pU8, trivial⟩ TopHanded_pure W base args ds gs before hval hW hz (fun g hg => by cases hg)
theorem topHanded_holds : Rows.TopHandedSaid :=
  OpenClaim.holds_of_wide 3 Tryz.f3 rfl rfl rfl rfl rfl rfl rfl ⟨rfl, rfl, rfl, rfl, rfl⟩ rfl rfl rfl rfl rfl (by kernel_rfl) Tryz.func3 (by kernel_rfl)
    (of_decide_eq_true (by kernel_rfl)) (by unfold Func.isWrapper; first | (rw [if_pos (by decide +kernel)]; kernel_rfl) | (rw [if_neg (by decide +kernel)]; exact ⟨rfl, rfl⟩))
    (fun os started H enc _ => topHanded_lifted os started H enc)
end Go.Proofs.YtaokpncjemkhcaaGreat
