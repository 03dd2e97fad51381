/-
  What sorts, and what drops equal neighbours, as calls that change what they are lent. No condition: no statement of the seat is proved here.
-/
import Derived.Test.YtnbmmopjkkofoaaBase2
import Derived.Test.YtnbmmopjkkofoaaShelf
import Derived.Sort.Grow
namespace Go.Proofs.Ytnbmmopjkkofoaa
open Go.RowKit Go.Sort
set_option linter.all false
theorem ints_vals {F : Nat → Nat → Prop} {w : World} : ∀ {l : List Int} {xs : List Value}, TReps F w (l.map fun n => TV.d (.int .i64 n)) xs ↔ xs = l.map (Value.int .i64)
  | [], xs => Iff.rfl
  | n :: l, xs => by
    constructor
    · rintro ⟨u, us, rfl, h1, h2⟩
      simp only [TRep, Rep] at h1
      rw [h1, ints_vals.1 h2]; rfl
    · rintro rfl
      exact ⟨.int .i64 n, _, rfl, rfl, ints_vals.2 rfl⟩
theorem put_list (l l' : List Int) (ys : List Value) (h : l'.length = l.length) : (putCells (Value.int .i64) 0 l'.toArray (l.map (Value.int .i64) ++ ys).toArray).toList = l'.map (Value.int .i64) ++ ys := by
  apply List.ext_getElem?
  intro k
  rw [Array.getElem?_toList]
  unfold putCells
  rw [Array.getElem?_mapIdx]
  by_cases hk : k < l.length
  · have e : (l.map (Value.int .i64) ++ ys).toArray[k]? = some (.int .i64 l[k]) := by simp [List.getElem?_append_left, hk]
    rw [e, List.getElem?_append_left (by simpa [h] using hk)]
    have hk' : k < l'.length := by omega
    simp [hk', h, hk]
  · rw [List.getElem?_append_right (by simp [h]; omega)]
    have e : (l.map (Value.int .i64) ++ ys).toArray[k]? = ys[k - l.length]? := by
      rw [List.getElem?_toArray, List.getElem?_append_right (by simp; omega)]; simp
    rw [e]
    cases hy : ys[k - l.length]? with
    | none => simp [hy, h]
    | some y =>
      have : ¬ k < l'.length := by omega
      simp [hy, h, this, hk]
theorem eff_putRow {P : Program} {f : FuncId} {b cap : Nat} {l l' : List Int} {rest : List TV} {ty : TypeId} {v : Value} (he : Ent P f) (hl : l'.length = l.length)
    (hc : ∀ w, Holds (Value.int .i64) w b 0 l.toArray → b < w.heap.size → Calls P f #[.slice (some ⟨b, 0, none⟩) l.length cap] w fun e w' => e = .returned v ∧ ∃ n os, w' = Go.Sort.grow (putRow (Value.int .i64) (Go.Sort.ahead w n) b 0 l'.toArray) os) :
    EffAt P f [.val (.slice (some ⟨b, 0, none⟩) l.length cap)] [(1005, .box b ty (l.map (fun n => TV.d (.int .i64 n)) ++ rest))] (X := Unit) (fun _ => .val v) (fun _ => [(1005, .box b ty (l'.map (fun n => TV.d (.int .i64 n)) ++ rest))]) := by
  refine ⟨he, fun w F vs hr hh => ?_⟩
  obtain ⟨u, us, rfl, hu, hus⟩ := hr
  cases hus
  simp only [TRep] at hu
  subst hu
  obtain ⟨hown, hF, cs, hb, hcs, hone⟩ := hh.res 1005 _ (lk_cons_same _ _ _)
  obtain ⟨xs, ys, rfl, hxs, hys⟩ := hcs.puts
  obtain rfl := ints_vals.1 hxs
  have hlt := heap_lt hb
  have hH : Holds (Value.int .i64) w b 0 l.toArray := fun j hj => by
    have hj' : j < l.length := by simpa using hj
    rw [Nat.zero_add]
    constructor
    · rw [cell_box hb, List.getElem?_append_left (by simpa using hj')]
      simp [hj']
    · simp [World.frozen?, hb]
  refine (hc w hH hlt).mono fun e w' hw => ?_
  obtain ⟨rfl, n, os, rfl⟩ := hw
  have hblk : ∀ k, k < w.heap.size → k ≠ b → (Go.Sort.grow (putRow (Value.int .i64) (Go.Sort.ahead w n) b 0 l'.toArray) os).heap[k]? = w.heap[k]? := fun k hk hkb => by
    simp only [Go.Sort.grow, putRow, mapBlock, Go.Sort.ahead]
    rw [Array.getElem?_append_left (by simpa using hk), Array.getElem?_modify, if_neg (Ne.symm hkb)]
  have hbb : (Go.Sort.grow (putRow (Value.int .i64) (Go.Sort.ahead w n) b 0 l'.toArray) os).heap[b]? = some (.cells (l'.map (Value.int .i64) ++ ys).toArray ty (0, 0)) := by
    simp only [Go.Sort.grow, putRow, mapBlock, Go.Sort.ahead]
    rw [Array.getElem?_append_left (by simpa using hlt), Array.getElem?_modify, if_pos rfl, hb]
    simp only [Option.map_some, onCells, Option.some.injEq, Obj.cells.injEq, and_self, and_true]
    apply Array.ext'
    rw [put_list l l' ys hl]
  have hcell : ∀ c o, F c o → (Go.Sort.grow (putRow (Value.int .i64) (Go.Sort.ahead w n) b 0 l'.toArray) os).cell? ⟨c, o, none⟩ = w.cell? ⟨c, o, none⟩ := fun c o hf => by
    have hcb : c ≠ b := fun e => by subst e; exact hF o hf
    obtain ⟨u, hu⟩ := hh.fcell c o hf
    have := hblk c (World.block_lt_of_cell? w ⟨c, o, none⟩ hu) hcb
    simp [World.cell?, this]
  have hsz : w.heap.size ≤ (Go.Sort.grow (putRow (Value.int .i64) (Go.Sort.ahead w n) b 0 l'.toArray) os).heap.size := by simp [Go.Sort.grow, putRow, mapBlock, Go.Sort.ahead]
  refine ⟨(), v, F, rfl, rfl, {
    os := rfl
    tape := rfl
    output := rfl
    hsize := hsz
    old := fun k hk hkl => hblk k hk (fun e => hkl ⟨1005, _, lk_cons_same _ _ _, e.symm⟩)
    fcell := fun c o hf => by obtain ⟨u, hu⟩ := hh.fcell c o hf; exact ⟨u, (hcell c o hf).trans hu⟩
    keep := hcell
    f0 := fun _ _ h => h
    fnew := fun _ _ h _ _ => h
    res := fun i r hr => ?_
    sep := fun i i' r r' c k1 k2 _ _ => ?_ }⟩
  · rw [lk_cons] at hr
    split at hr
    · cases hr
      refine ⟨.inr ⟨1005, _, lk_cons_same _ _ _, rfl⟩, hF, _, hbb, ?_, ?_⟩
      · exact (ints_vals.2 rfl).append (hys.ext' fun c o hf => ⟨hf, hcell c o hf⟩)
      · intro u hu
        rcases List.mem_append.1 hu with hu | hu
        · obtain ⟨m, _, rfl⟩ := List.mem_map.1 hu; rfl
        · exact hone u (by simp [hu])
    · simp [lk] at hr
  · rw [lk_cons] at k1 k2
    split at k1 <;> split at k2
    · omega
    · simp [lk] at k2
    · simp [lk] at k1
    · simp [lk] at k1
def sortL (l : List Int) : List Int := l.mergeSort fun x y => decide (x ≤ y)
def compL (l : List Int) : List Int := Lib.compact l
theorem sort_eff (b cap : Nat) (l : List Int) (rest : List TV) (ty : TypeId) (h : l.length < 4611686018427387904) :
    EffAt Try.prog 56 [.val (.slice (some ⟨b, 0, none⟩) l.length cap)] [(1005, .box b ty (l.map (fun n => TV.d (.int .i64 n)) ++ rest))] (X := Unit) (fun _ => .val (.tuple #[])) (fun _ => [(1005, .box b ty ((sortL l).map (fun n => TV.d (.int .i64 n)) ++ rest))]) :=
  eff_putRow (ent_of (fn := Try.f56) (by kernel_rfl) rfl rfl) (List.length_mergeSort _) fun w hH hlt => Try.slices_Sort_int b 0 cap l w hH hlt h
theorem comp_le (l : List Int) : (Lib.compact l).length ≤ l.length := by
  unfold Lib.compact Lib.compactUpTo
  rw [List.length_map]
  exact Nat.le_trans (List.length_filter_le _ _) (by simp)
theorem compact_eff (b cap n : Nat) (l : List Int) (rest : List TV) (ty : TypeId) (hn : l.length = n) (h : n ≤ 9223372036854775807) (hcap : n ≤ cap) :
    EffAt Try.prog 57 [.val (.slice (some ⟨b, 0, none⟩) n cap)] [(1005, .box b ty (l.map (fun n => TV.d (.int .i64 n)) ++ rest))] (X := Unit) (fun _ => .val (.slice (some ⟨b, 0, none⟩) (compL l).length cap))
      (fun _ => [(1005, .box b ty ((compL l ++ List.replicate (n - (compL l).length) 0).map (fun n => TV.d (.int .i64 n)) ++ rest))]) := by
  subst hn
  exact eff_putRow (ent_of (fn := Try.f57) (by kernel_rfl) rfl rfl) (by have := comp_le l; simp only [List.length_append, List.length_replicate, compL]; omega) fun w hH hlt =>
    (Try.slices_Compact_int b 0 cap l w hH h hcap).mono fun e w' ⟨he, q, hw⟩ => ⟨he, q, #[], by rw [hw, Go.Sort.grow_empty]; rfl⟩
end Go.Proofs.Ytnbmmopjkkofoaa
