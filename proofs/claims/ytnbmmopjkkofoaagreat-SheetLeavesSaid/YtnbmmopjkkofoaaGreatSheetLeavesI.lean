/-
  A part of the proof that contangolaw.SheetLeaves returns true: what the last text needs, and no more. No condition: no statement of the seat is proved here.
-/
import Derived.Sort.Grow
import Derived.Test.YtnbmmopjkkofoaaGreatSheetLeavesH
namespace Go.Proofs.YtnbmmopjkkofoaaGreat
open Go.RowKit Go.Sort
set_option linter.all false
theorem ints_vals {F : Nat → Nat → Prop} {w : World} : ∀ {l : List Int} {xs : List Value}, TReps F w (l.map fun n => TV.d (.int .i64 n)) xs ↔ xs = l.map (Value.int .i64)
  | [], xs => Iff.rfl
  | n :: l, xs => by
    constructor
    · rintro ⟨u, us, rfl, h1, h2⟩
      simp only [TRep, Rep] at h1
      rw [h1, ints_vals.1 h2]; rfl
    · rintro rfl
      exact ⟨.int .i64 n, _, rfl, rfl, ints_vals.2 rfl⟩
theorem put_list (l l' : List Int) (ys : List Value) (h : l'.length = l.length) : (putCells (Value.int .i64) 0 l'.toArray (l.map (Value.int .i64) ++ ys).toArray).toList = l'.map (Value.int .i64) ++ ys := by
  apply List.ext_getElem?
  intro k
  rw [Array.getElem?_toList]
  unfold putCells
  rw [Array.getElem?_mapIdx]
  by_cases hk : k < l.length
  · have e : (l.map (Value.int .i64) ++ ys).toArray[k]? = some (.int .i64 l[k]) := by simp [List.getElem?_append_left, hk]
    rw [e, List.getElem?_append_left (by simpa [h] using hk)]
    have hk' : k < l'.length := by omega
    simp [hk', h, hk]
  · rw [List.getElem?_append_right (by simp [h]; omega)]
    have e : (l.map (Value.int .i64) ++ ys).toArray[k]? = ys[k - l.length]? := by
      rw [List.getElem?_toArray, List.getElem?_append_right (by simp; omega)]; simp
    rw [e]
    cases hy : ys[k - l.length]? with
    | none => simp [hy, h]
    | some y =>
      have : ¬ k < l'.length := by omega
      simp [hy, h, this, hk]
theorem eff_putRow {P : Program} {f : FuncId} {b cap : Nat} {l l' : List Int} {rest : List TV} {ty : TypeId} {v : Value} (he : Ent P f) (hl : l'.length = l.length)
    (hc : ∀ w, Holds (Value.int .i64) w b 0 l.toArray → b < w.heap.size → Calls P f #[.slice (some ⟨b, 0, none⟩) l.length cap] w fun e w' => e = .returned v ∧ ∃ n os, w' = Go.Sort.grow (putRow (Value.int .i64) (Go.Sort.ahead w n) b 0 l'.toArray) os) :
    EffAt P f [.val (.slice (some ⟨b, 0, none⟩) l.length cap)] [(1005, .box b ty (l.map (fun n => TV.d (.int .i64 n)) ++ rest))] (X := Unit) (fun _ => .val v) (fun _ => [(1005, .box b ty (l'.map (fun n => TV.d (.int .i64 n)) ++ rest))]) := by
  refine ⟨he, fun w F vs hr hh => ?_⟩
  obtain ⟨u, us, rfl, hu, hus⟩ := hr
  cases hus
  simp only [TRep] at hu
  subst hu
  obtain ⟨hown, hF, cs, hb, hcs, hone⟩ := hh.res 1005 _ (lk_cons_same _ _ _)
  obtain ⟨xs, ys, rfl, hxs, hys⟩ := hcs.puts
  obtain rfl := ints_vals.1 hxs
  have hlt := heap_lt hb
  have hH : Holds (Value.int .i64) w b 0 l.toArray := fun j hj => by
    have hj' : j < l.length := by simpa using hj
    rw [Nat.zero_add]
    constructor
    · rw [cell_box hb, List.getElem?_append_left (by simpa using hj')]
      simp [hj']
    · simp [World.frozen?, hb]
  refine (hc w hH hlt).mono fun e w' hw => ?_
  obtain ⟨rfl, n, os, rfl⟩ := hw
  have hblk : ∀ k, k < w.heap.size → k ≠ b → (Go.Sort.grow (putRow (Value.int .i64) (Go.Sort.ahead w n) b 0 l'.toArray) os).heap[k]? = w.heap[k]? := fun k hk hkb => by
    simp only [Go.Sort.grow, putRow, mapBlock, Go.Sort.ahead]
    rw [Array.getElem?_append_left (by simpa using hk), Array.getElem?_modify, if_neg (Ne.symm hkb)]
  have hbb : (Go.Sort.grow (putRow (Value.int .i64) (Go.Sort.ahead w n) b 0 l'.toArray) os).heap[b]? = some (.cells (l'.map (Value.int .i64) ++ ys).toArray ty (0, 0)) := by
    simp only [Go.Sort.grow, putRow, mapBlock, Go.Sort.ahead]
    rw [Array.getElem?_append_left (by simpa using hlt), Array.getElem?_modify, if_pos rfl, hb]
    simp only [Option.map_some, onCells, Option.some.injEq, Obj.cells.injEq, and_self, and_true]
    apply Array.ext'
    rw [put_list l l' ys hl]
  have hcell : ∀ c o, F c o → (Go.Sort.grow (putRow (Value.int .i64) (Go.Sort.ahead w n) b 0 l'.toArray) os).cell? ⟨c, o, none⟩ = w.cell? ⟨c, o, none⟩ := fun c o hf => by
    have hcb : c ≠ b := fun e => by subst e; exact hF o hf
    obtain ⟨u, hu⟩ := hh.fcell c o hf
    have := hblk c (World.block_lt_of_cell? w ⟨c, o, none⟩ hu) hcb
    simp [World.cell?, this]
  have hsz : w.heap.size ≤ (Go.Sort.grow (putRow (Value.int .i64) (Go.Sort.ahead w n) b 0 l'.toArray) os).heap.size := by simp [Go.Sort.grow, putRow, mapBlock, Go.Sort.ahead]
  refine ⟨(), v, F, rfl, rfl, {
    os := rfl
    tape := rfl
    output := rfl
    hsize := hsz
    old := fun k hk hkl => hblk k hk (fun e => hkl ⟨1005, _, lk_cons_same _ _ _, e.symm⟩)
    fcell := fun c o hf => by obtain ⟨u, hu⟩ := hh.fcell c o hf; exact ⟨u, (hcell c o hf).trans hu⟩
    keep := hcell
    f0 := fun _ _ h => h
    fnew := fun _ _ h _ _ => h
    res := fun i r hr => ?_
    sep := fun i i' r r' c k1 k2 _ _ => ?_ }⟩
  · rw [lk_cons] at hr
    split at hr
    · cases hr
      refine ⟨.inr ⟨1005, _, lk_cons_same _ _ _, rfl⟩, hF, _, hbb, ?_, ?_⟩
      · exact (ints_vals.2 rfl).append (hys.ext' fun c o hf => ⟨hf, hcell c o hf⟩)
      · intro u hu
        rcases List.mem_append.1 hu with hu | hu
        · obtain ⟨m, _, rfl⟩ := List.mem_map.1 hu; rfl
        · exact hone u (by simp [hu])
    · simp [lk] at hr
  · rw [lk_cons] at k1 k2
    split at k1 <;> split at k2
    · omega
    · simp [lk] at k2
    · simp [lk] at k1
    · simp [lk] at k1
def sortL (l : List Int) : List Int := l.mergeSort fun x y => decide (x ≤ y)
def compL (l : List Int) : List Int := Lib.compact l
theorem sort_eff (b cap : Nat) (l : List Int) (rest : List TV) (ty : TypeId) (h : l.length < 4611686018427387904) :
    EffAt Tryz.prog 45 [.val (.slice (some ⟨b, 0, none⟩) l.length cap)] [(1005, .box b ty (l.map (fun n => TV.d (.int .i64 n)) ++ rest))] (X := Unit) (fun _ => .val (.tuple #[])) (fun _ => [(1005, .box b ty ((sortL l).map (fun n => TV.d (.int .i64 n)) ++ rest))]) :=
  eff_putRow (ent_of (fn := Tryz.f45) (by kernel_rfl) rfl rfl) (List.length_mergeSort _) fun w hH hlt => Tryz.slices_Sort_int b 0 cap l w hH hlt h
theorem comp_le (l : List Int) : (Lib.compact l).length ≤ l.length := by
  unfold Lib.compact Lib.compactUpTo
  rw [List.length_map]
  exact Nat.le_trans (List.length_filter_le _ _) (by simp)
theorem compact_eff (b cap n : Nat) (l : List Int) (rest : List TV) (ty : TypeId) (hn : l.length = n) (h : n ≤ 9223372036854775807) (hcap : n ≤ cap) :
    EffAt Tryz.prog 46 [.val (.slice (some ⟨b, 0, none⟩) n cap)] [(1005, .box b ty (l.map (fun n => TV.d (.int .i64 n)) ++ rest))] (X := Unit) (fun _ => .val (.slice (some ⟨b, 0, none⟩) (compL l).length cap))
      (fun _ => [(1005, .box b ty ((compL l ++ List.replicate (n - (compL l).length) 0).map (fun n => TV.d (.int .i64 n)) ++ rest))]) := by
  subst hn
  exact eff_putRow (ent_of (fn := Tryz.f46) (by kernel_rfl) rfl rfl) (by have := comp_le l; simp only [List.length_append, List.length_replicate, compL]; omega) fun w hH hlt =>
    (Tryz.slices_Compact_int b 0 cap l w hH h hcap).mono fun e w' ⟨he, q, hw⟩ => ⟨he, q, #[], by rw [hw, Go.Sort.grow_empty]; rfl⟩
end Go.Proofs.YtnbmmopjkkofoaaGreat
namespace Go.Proofs.YtnbmmopjkkofoaaGreat
open Go.RowKit
set_option maxRecDepth 20000
set_option linter.all false
theorem ask_bad {r : Reg} {is : Bool} {N e : Int} {out : List Nat} (h : AskP r is N out e) (he : e ≠ 0) : out = [] := by
  rcases h with ⟨_, h, _⟩ | ⟨_, _, h, _⟩ | ⟨_, _, n, _, _, _, h⟩
  · exact h
  · exact h
  · cases out with
    | nil => rfl
    | cons d l => exact (he h).elim
theorem ask_good {r : Reg} {is : Bool} {N : Int} {out : List Nat} (h : AskP r is N out 0) : Valid r ∧ is = true ∧ ∃ n : Nat, N = n ∧ n ≤ 9 ∧ EvOK r n out ∧ out ≠ [] := by
  rcases h with ⟨h0, _, h⟩ | ⟨_, _, _, h⟩ | ⟨h0, hi, n, hN, h9, hev, h⟩
  · exact (h0 h.symm).elim
  · cases h
  · refine ⟨valid_of h0, hi, n, hN, h9, hev, fun e => ?_⟩
    subst e
    cases h
def holdL (r : Reg) (out : List Nat) (s : Nat) : List Int := out.map fun d => (placesA r d).getD s 0
def holdR (r : Reg) (s : Int) (out : List Nat) : List Int := compL (sortL (holdL r out s.toNat))
theorem hold_nil (r : Reg) (s : Int) : holdR r s [] = [] := by
  unfold holdR holdL compL sortL
  rw [List.map_nil, List.mergeSort_nil]
  rfl
theorem sheetB_bd {r : Reg} {s : Int} (v : Valid r) (h : sheetB r s = true) : 0 ≤ s ∧ s < r.start.length ∧ s.toNat < 4 := by
  have := v.s4
  simp [sheetB] at h
  omega
theorem vec_take {l : List Int} {i : Nat} {x : Int} (h : l[i]? = some x) : (l.take i).map (fun n => TV.d (.int .i64 n)) ++ ([[D.int .i64 x]].flatten.map TV.d) = (l.take (i + 1)).map fun n => TV.d (.int .i64 n) := by
  rw [List.take_add_one, h]; simp
theorem comp_split (l : List Int) (k : Nat) (rest : List TV) : ((compL l ++ List.replicate k 0).map (fun n => TV.d (.int .i64 n)) ++ rest) = ((compL l).map intD).map .d ++ ((List.replicate k 0).map (fun n => TV.d (.int .i64 n)) ++ rest) := by
  simp [intD]
def heldR (r : Reg) (a : Int) (out : List Nat) : Int × Int := match out with
  | [] => (0, 0)
  | d0 :: l => (minL (heldN r d0 a : Nat) (l.map fun d => (heldN r d a : Int)), maxL (heldN r d0 a : Nat) (l.map fun d => (heldN r d a : Int)))
def owedR (r : Reg) (a c : Int) (out : List Nat) : Int × Int := match out with
  | [] => (0, 0)
  | d0 :: l => (minL (openN r d0 a c) (l.map fun d => openN r d a c), maxL (openN r d0 a c) (l.map fun d => openN r d a c))
theorem heldN_bd (r : Reg) (v : Valid r) (d : Nat) (a : Int) : -1000 ≤ (heldN r d a : Int) ∧ (heldN r d a : Int) ≤ 1000 := by
  have h1 : heldN r d a ≤ ((placesA r d).take r.start.length).length := List.countP_le_length
  have h2 := v.s4
  rw [List.length_take] at h1
  omega
theorem openF_bd {d : Nat} {a c : Int} : ∀ {k : Nat} {es : List Ent5} {x m : Int}, -m ≤ x → x ≤ m → -(m + es.length) ≤ openF d a c k es x ∧ openF d a c k es x ≤ m + es.length
  | k, [], x, m, h1, h2 => by simp [openF]; omega
  | k, e :: es, x, m, h1, h2 => by
    have key : ∀ y, -(m + 1) ≤ y → y ≤ m + 1 → -(m + (e :: es).length) ≤ openF d a c (k + 1) es y ∧ openF d a c (k + 1) es y ≤ m + (e :: es).length := fun y k1 k2 => by
      have := openF_bd (d := d) (a := a) (c := c) (k := k + 1) (es := es) k1 k2
      simp only [List.length_cons, Int.natCast_add, Int.natCast_one]
      omega
    unfold openF
    simp only [Bool.cond_eq_ite]
    refine key _ ?_ ?_ <;> (repeat split) <;> omega
theorem openN_bd (r : Reg) (v : Valid r) (d : Nat) (a c : Int) : -1000 ≤ openN r d a c ∧ openN r d a c ≤ 1000 := by
  have := openF_bd (d := d) (a := a) (c := c) (k := 0) (es := r.entries) (x := 0) (m := 0) (by omega) (by omega)
  have h6 := v.e6
  unfold openN
  omega
def surelyR (r : Reg) (a : Int) (out : List Nat) : List Int := bif out.isEmpty then [] else ((List.range r.start.length).filter fun s => out.all fun d => (placesA r d).getD s 0 == a).map Int.ofNat
theorem zr100 : (Tryz.prog.info? 100).map (·.zero) = some (some (.agg #[.nilFunc, (.int .i64 0), (.int .i64 0)])) := by kernel_rfl
theorem bt100 : BT Tryz.prog 100 (.agg #[.nilFunc, (.int .i64 0), (.int .i64 0)]) (fun i => ([(0, 1), (1, 1), (2, 1)] : List (Nat × Nat))[i]?) := bt_struct Tryz.underlying100 zr100 (by kernel_rfl)
theorem Holders_eff (r : Reg) (s day : Int) : EffAt Tryz.prog 19 [.d (regD r), .d (.int .i64 s), .d (.int .i64 day)] [] (X := AskX r (sheetB r s) day) (fun x => .d (.tup [ints (holdR r s x.1.1), .int .i64 x.1.2])) (fun _ => []) := by
  refine EffAt.of_awp Tryz.func19 rfl (by kernel_rfl) rfl fun Γ hn => ?_
  refine awp_seq ?_
  refine awp_region ?_
  refine stepW (s_box 3 rfl rfl rfl (nb hn rfl) rfl rfl) fun b3 => ?_
  refine sq rfl rfl hn rfl (q_assign rfl rfl) ?_
  refine sq rfl rfl hn rfl (q_assign rfl rfl) ?_
  refine run_nil ?_
  refine aend_then ?_
  refine awp_seq ?_
  refine gh_awp (g_freeze (t := 3) 3 rfl (nb hn rfl) rfl rfl trivial) ?_
  refine d_start (W := fun b => True) fmo ?_
  refine d1q (i := 0) rfl (by kernel_rfl) (fun _ _ _ _ h => h) rfl rfl hn rfl (q_loadpA rfl rfl Tryz.underlying36 rfl sz36 rfl rfl seesFA) ?_
  refine d1q (i := 1) rfl (by kernel_rfl) (fun _ _ _ _ h => h) rfl rfl hn rfl (q_loadpA rfl rfl Tryz.underlying36 rfl sz36 rfl rfl seesFA) ?_
  refine d1q (i := 2) rfl (by kernel_rfl) (fun _ _ _ _ h => h) rfl rfl hn rfl (q_move rfl rfl) ?_
  refine d1q (i := 4) rfl (by kernel_rfl) (fun _ _ _ _ h => h) rfl rfl hn rfl (q_move rfl rfl) ?_
  refine d1_of_d2 ?_
  refine d2_one (i := 3) (by kernel_rfl) rfl (s_call [] (fun _ => sheet_ok r s) rfl (guard_none rfl) rfl (nb hn rfl) (fun _ => trivial) rfl rfl (.refl _)) fun _ => ?_
  refine d2_of_d1 ?_
  refine d1_of_d2 ?_
  refine d2_one (i := 5) (by kernel_rfl) rfl (s_callE (asked_ok r (sheetB r s) day) rfl rfl rfl (nb hn rfl) (.d rfl) rfl (.refl _) trivial (fun _ => rfl) (fun _ _ => trivial)) fun ⟨⟨out, e⟩, hx⟩ => ?_
  refine d2_of_d1 ?_
  refine d1q (i := 6) rfl (by kernel_rfl) (fun _ _ _ _ h => h) rfl rfl hn rfl (q_move rfl rfl) ?_
  refine d1q (i := 7) rfl (by kernel_rfl) (fun _ _ _ _ h => h) rfl rfl hn rfl (q_extractd rfl rfl rfl) ?_
  refine d1q (i := 8) rfl (by kernel_rfl) (fun _ _ _ _ h => h) rfl rfl hn rfl (q_extractd rfl rfl rfl) ?_
  refine d1q (i := 9) rfl (by kernel_rfl) (fun _ _ _ _ h => h) rfl rfl hn rfl (q_assign rfl rfl) ?_
  refine d1q (i := 10) rfl (by kernel_rfl) (fun _ _ _ _ h => h) rfl rfl hn rfl (q_assign rfl rfl) ?_
  refine d1_of_d2 ?_
  refine d2_done (by kernel_rfl) ?_
  refine aend_then ?_
  refine awp_seq ?_
  refine awp_seq ?_
  refine awp_region ?_
  refine sq rfl rfl hn rfl (q_move rfl rfl) ?_
  refine sq rfl rfl hn rfl (q_neq rfl rfl rfl) ?_
  refine run_nil ?_
  refine aend_then ?_
  refine awp_cond rfl (fun hb0 => ?_) (fun hb0 => ?_)
  · skip
    have hee : e ≠ 0 := by simpa using hb0
    obtain rfl := ask_bad hx hee
    refine awp_seq ?_
    refine awp_region ?_
    refine sq rfl rfl hn rfl (q_move rfl rfl) ?_
    refine sq rfl rfl hn rfl (q_assign rfl rfl) ?_
    refine sq rfl rfl hn rfl (q_assign rfl rfl) ?_
    refine run_nil ?_
    refine aend_then ?_
    refine awp_ret ?_
    refine aend_then_ret ?_
    exact ret_E (.inl rfl) ⟨([], e), hx⟩ ((hands_2d rfl (.tmp rfl) (.tmp rfl)).le (by rw [hold_nil]; exact .tup (.cons (.nil 1) (.refl _)))) trivial
  · skip
    have he0 : e = 0 := by simpa using hb0
    subst he0
    obtain ⟨v, his, n, rfl, hN, hev, hne⟩ := ask_good hx
    have hd64 := ev_bd v hN hev
    have ho64 : out.length ≤ 64 := hev.2.1
    obtain ⟨hs0, hs1, hs4⟩ := sheetB_bd v his
    obtain ⟨hl, hhl⟩ : ∃ hl, hl = holdL r out s.toNat := ⟨_, rfl⟩
    have hll : hl.length = out.length := by rw [hhl, holdL, List.length_map]
    refine awp_skip ?_
    refine aend_then ?_
    refine awp_seq ?_
    refine awp_region ?_
    refine sq rfl rfl hn rfl (q_assign rfl rfl) ?_
    refine run_nil ?_
    refine aend_then ?_
    refine awp_seq ?_
    refine awp_seq ?_
    refine gh_awp (g_nilV (t := 10) 1005 rfl) ?_
    refine awp_region ?_
    refine sq rfl rfl hn rfl (q_move rfl rfl) ?_
    refine sq rfl rfl hn rfl (q_len rfl rfl Tryz.underlying90) ?_
    refine sq rfl rfl hn rfl (q_move rfl rfl) ?_
    refine run_nil ?_
    refine aend_then ?_
    refine awp_block ?_
    refine awp_loop_on (ι := {x : Nat × Value // x.1 ≤ out.length ∧ VecV x.2 1 ((hl.take x.1).map fun n => TV.d (.int .i64 n))}) (fun x => (27, true, .d (.int .i64 (x.1.1 : Nat))) :: (10, true, .val x.1.2) :: anys [28, 29, 30, 12, 31, 32, 33, 34, 35, 36, 37, 38, 39]) (fun x => [(1005, vecRes 3 x.1.2 1 ((hl.take x.1.1).map fun n => TV.d (.int .i64 n)))]) (fun x => out.length - x.1.1) ⟨(0, .slice none 0 0), by simp, VecV.nil 1⟩ ⟨.inl rfl, .inl rfl, holdT_anys _⟩ ⟨.inl rfl, trivial⟩ ?_
    rintro ⟨⟨i, vv⟩, hi, hV⟩
    dsimp only
    dsimp only at hi hV
    refine awp_seq ?_
    refine awp_region ?_
    refine sq rfl rfl hn rfl (q_lss rfl rfl rfl) ?_
    refine run_nil ?_
    refine aend_then ?_
    refine awp_seq ?_
    refine awp_cond rfl (fun hb1 => ?_) (fun hb1 => ?_)
    · try simp only [decide_eq_true_eq, decide_eq_false_iff_not, Bool.and_eq_true, Bool.or_eq_true, Bool.and_eq_false_iff, Bool.or_eq_false_iff, Bool.not_eq_true', Bool.not_eq_false', beq_iff_eq, bne_iff_ne, ne_eq, beq_eq_false_iff_ne, bne_eq_false_iff_eq, Int.not_lt, Int.not_le] at hb1
      have hlt : i < out.length := by simp only [List.length_map] at hb1; omega
      obtain ⟨d, hd⟩ := ex_get hlt
      have hxl : hl[i]? = some ((placesA r d).getD s.toNat 0) := by rw [hhl]; exact mget hd
      have hpl := placesA_len r d
      refine awp_skip ?_
      refine aend_then ?_
      refine awp_seq ?_
      refine awp_block ?_
      refine awp_seq ?_
      refine awp_region ?_
      refine sq rfl rfl hn rfl (q_index rfl rfl rfl Tryz.underlying90 sz59 rfl (mget hd)) ?_
      refine sq rfl rfl hn rfl (q_loadp rfl rfl Tryz.underlying59 rfl seesF0) ?_
      refine sq rfl rfl hn rfl (q_assign rfl rfl) ?_
      refine run_nil ?_
      refine aend_then ?_
      refine awp_region ?_
      refine sq rfl rfl hn rfl (q_move rfl rfl) ?_
      refine sq rfl rfl hn rfl (q_loadpA rfl rfl Tryz.underlying36 rfl sz36 rfl rfl seesF0) ?_
      refine sq rfl rfl hn rfl (q_move rfl rfl) ?_
      refine stepW (s_call [] (fun _ => places_ok r d v (hd64 d (List.mem_of_getElem? hd))) rfl (guard_none rfl) rfl (nb hn rfl) (fun _ => trivial) rfl rfl (.refl _)) fun _ => ?_
      refine sq rfl rfl hn rfl (q_move rfl rfl) ?_
      refine sq rfl rfl hn rfl (q_indexAgg (i := s.toNat) rfl rfl rfl Tryz.underlying94 Tryz.underlying3 rfl sz3 (by omega) (by omega) (mget (getD_some (by omega)))) ?_
      refine stepW (s_buildSlice rfl rfl rfl (nb hn rfl) Tryz.underlying22 sz3 zr3 rfl rfl rfl (show _ = [.d (.int .i64 0)] from by kernel_rfl) (by kernel_rfl) rfl (fill_int rfl) rfl rfl rfl) fun _ => ?_
      refine stepW (s_appendV (id := 1005) rfl rfl rfl (nb hn rfl) elt22 zr3 rfl hV rfl rfl rfl (by simp [chunk, List.length_take]; omega) (by simp [chunk, List.length_take]; omega) (fun _ _ => trivial)) fun ⟨v38, hV38⟩ => ?_
      refine sq rfl rfl hn rfl (q_assign rfl rfl) ?_
      refine run_nil ?_
      refine aend_block ?_
      refine aend_then ?_
      refine awp_region ?_
      refine sq rfl rfl hn rfl (q_add rfl rfl rfl (r := ((i + 1 : Nat) : Int)) (i64w (by omega) (by omega))) ?_
      refine sq rfl rfl hn rfl (q_move rfl rfl) ?_
      refine run_nil ?_
      exact aend_round_on ⟨(i + 1, v38), by simp only; omega, by rw [← vec_take hxl]; exact hV38⟩ ⟨.inl rfl, .inl rfl, holdT_anys _⟩ ⟨.inl (congrArg (fun z => some (vecRes 3 v38 1 z)) (vec_take hxl)), trivial⟩ (by simp only; omega) (by repeat (first | exact kr _ | refine kc rfl ?_)) (by repeat (first | exact kr _ | refine kc rfl ?_))
    · try simp only [decide_eq_true_eq, decide_eq_false_iff_not, Bool.and_eq_true, Bool.or_eq_true, Bool.and_eq_false_iff, Bool.or_eq_false_iff, Bool.not_eq_true', Bool.not_eq_false', beq_iff_eq, bne_iff_ne, ne_eq, beq_eq_false_iff_ne, bne_eq_false_iff_eq, Int.not_lt, Int.not_le] at hb1
      have hio : i = out.length := by simp only [List.length_map] at hb1; omega
      subst hio
      rw [← hll, List.take_length] at hV
      rw [← hll, List.take_length]
      rcases hV with ⟨_, hnil⟩ | ⟨bb, nn, cap, rfl, hc1, hc2, hc3⟩
      · exact absurd (List.length_eq_zero_iff.1 (by rw [← hll]; simpa using hnil)) hne
      obtain rfl : nn = hl.length := by simpa using hc3.symm
      have hcm : hl.length ≤ 64 := by omega
      refine awp_exit ?_
      refine aend_then_exit ?_
      refine aend_then_exit ?_
      refine aend_block_exit ?_
      refine aend_then ?_
      refine awp_seq ?_
      refine awp_region ?_
      refine sq rfl rfl hn rfl (q_move rfl rfl) ?_
      refine stepW (s_callE (sort_eff bb cap hl _ 3 (by omega)) rfl rfl rfl (nb hn rfl) (.d rfl) rfl (.refl _) ⟨rfl, trivial⟩ (fun _ => rfl) (fun _ _ => trivial)) fun _ => ?_
      refine run_nil ?_
      refine aend_then ?_
      refine awp_seq ?_
      refine awp_region ?_
      refine sq rfl rfl hn rfl (q_move rfl rfl) ?_
      refine stepW (s_callE (compact_eff bb cap hl.length (sortL hl) _ 3 (List.length_mergeSort _) (by omega) hc1) rfl rfl rfl (nb hn rfl) (.d rfl) rfl (.refl _) ⟨rfl, trivial⟩ (fun _ => rfl) (fun _ _ => trivial)) fun _ => ?_
      refine sq rfl rfl hn rfl (q_assign rfl rfl) ?_
      refine sq rfl rfl hn rfl (q_assign rfl rfl) ?_
      refine run_nil ?_
      refine aend_then ?_
      refine awp_ret ?_
      refine gh_end (g_freezeVK (t := 6) (n := (compL (sortL hl)).length) (sz := 1) 1005 rfl rfl (comp_split _ _ _) (by simp) (chunk_int _) (by have := comp_le (sortL hl); have h2 : (sortL hl).length = hl.length := List.length_mergeSort _; simp only [compL]; omega) hc2) ?_
      exact ret_E (.inl rfl) ⟨(out, 0), hx⟩ ((hands_2d rfl (.tmp rfl) (.tmp rfl)).eq (by rw [hhl]; rfl)) trivial
theorem InHand_eff (r : Reg) (a day : Int) : EffAt Tryz.prog 21 [.d (regD r), .d (.int .i64 a), .d (.int .i64 day)] [] (X := AskX r (houseB r a) day) (fun x => .d (.tup [.agg [.int .i64 (heldR r a x.1.1).1, .int .i64 (heldR r a x.1.1).2], .int .i64 x.1.2])) (fun _ => []) := by
  refine EffAt.of_awp Tryz.func21 rfl (by kernel_rfl) rfl fun Γ hn => ?_
  refine awp_seq ?_
  refine awp_region ?_
  refine stepW (s_box 3 rfl rfl rfl (nb hn rfl) rfl rfl) fun b3 => ?_
  refine stepW (s_alloc 6 rfl rfl rfl (nb hn rfl) zr48 rfl rfl) fun b6 => ?_
  refine sq rfl rfl hn rfl (q_assign rfl rfl) ?_
  refine run_nil ?_
  refine aend_then ?_
  refine awp_seq ?_
  refine gh_awp (g_freeze (t := 3) 3 rfl (nb hn rfl) rfl rfl trivial) ?_
  refine d_start (W := fun b => True) fmo ?_
  refine d1q (i := 0) rfl (by kernel_rfl) (fun _ _ _ _ h => h) rfl rfl hn rfl (q_loadpA rfl rfl Tryz.underlying36 rfl sz36 rfl rfl seesFA) ?_
  refine d1q (i := 1) rfl (by kernel_rfl) (fun _ _ _ _ h => h) rfl rfl hn rfl (q_loadpA rfl rfl Tryz.underlying36 rfl sz36 rfl rfl seesFA) ?_
  refine d1q (i := 2) rfl (by kernel_rfl) (fun _ _ _ _ h => h) rfl rfl hn rfl (q_move rfl rfl) ?_
  refine d1q (i := 4) rfl (by kernel_rfl) (fun _ _ _ _ h => h) rfl rfl hn rfl (q_move rfl rfl) ?_
  refine d1_of_d2 ?_
  refine d2_one (i := 3) (by kernel_rfl) rfl (s_call [] (fun _ => house_ok r a) rfl (guard_none rfl) rfl (nb hn rfl) (fun _ => trivial) rfl rfl (.refl _)) fun _ => ?_
  refine d2_of_d1 ?_
  refine d1_of_d2 ?_
  refine d2_one (i := 5) (by kernel_rfl) rfl (s_callE (asked_ok r (houseB r a) day) rfl rfl rfl (nb hn rfl) (.d rfl) rfl (.refl _) trivial (fun _ => rfl) (fun _ _ => trivial)) fun ⟨⟨out, e⟩, hx⟩ => ?_
  refine d2_of_d1 ?_
  refine d1q (i := 6) rfl (by kernel_rfl) (fun _ _ _ _ h => h) rfl rfl hn rfl (q_move rfl rfl) ?_
  refine d1q (i := 7) rfl (by kernel_rfl) (fun _ _ _ _ h => h) rfl rfl hn rfl (q_extractd rfl rfl rfl) ?_
  refine d1q (i := 8) rfl (by kernel_rfl) (fun _ _ _ _ h => h) rfl rfl hn rfl (q_extractd rfl rfl rfl) ?_
  refine d1q (i := 9) rfl (by kernel_rfl) (fun _ _ _ _ h => h) rfl rfl hn rfl (q_assign rfl rfl) ?_
  refine d1q (i := 10) rfl (by kernel_rfl) (fun _ _ _ _ h => h) rfl rfl hn rfl (q_assign rfl rfl) ?_
  refine d1_of_d2 ?_
  refine d2_done (by kernel_rfl) ?_
  refine aend_then ?_
  refine awp_seq ?_
  refine awp_seq ?_
  refine awp_region ?_
  refine sq rfl rfl hn rfl (q_move rfl rfl) ?_
  refine sq rfl rfl hn rfl (q_neq rfl rfl rfl) ?_
  refine run_nil ?_
  refine aend_then ?_
  refine awp_cond rfl (fun hb0 => ?_) (fun hb0 => ?_)
  · skip
    have hee : e ≠ 0 := by simpa using hb0
    obtain rfl := ask_bad hx hee
    refine awp_seq ?_
    refine awp_region ?_
    refine sq rfl rfl hn rfl (q_buildd rfl bt48 rfl rfl rfl rfl rfl) ?_
    refine sq rfl rfl hn rfl (q_move rfl rfl) ?_
    refine stepW (s_store rfl rfl rfl rfl rfl rfl (id := 6) rfl sz48 rfl (Nat.le_of_ble_eq_true rfl) rfl trivial) fun _ => ?_
    refine sq rfl rfl hn rfl (q_assign rfl rfl) ?_
    refine run_nil ?_
    refine aend_then ?_
    refine awp_ret ?_
    refine aend_then_ret ?_
    exact ret_E (.inl rfl) ⟨([], e), hx⟩ (hands_2d rfl (.d (.cellA rfl (id := 6) rfl Tryz.underlying48 rfl sz48 rfl rfl)) (.tmp rfl)) trivial
  · skip
    have he0 : e = 0 := by simpa using hb0
    subst he0
    obtain ⟨v, his, n, rfl, hN, hev, hne⟩ := ask_good hx
    have hd64 := ev_bd v hN hev
    have ho64 : out.length ≤ 64 := hev.2.1
    obtain ⟨d0, l, rfl⟩ : ∃ d0 l, out = d0 :: l := by cases out with
      | nil => exact absurd rfl hne
      | cons d l => exact ⟨d, l, rfl⟩
    refine awp_skip ?_
    refine aend_then ?_
    refine awp_seq ?_
    refine awp_region ?_
    refine sq rfl rfl hn rfl (q_move rfl rfl) ?_
    refine sq rfl rfl hn rfl (q_buildd rfl bt100 rfl rfl rfl rfl rfl) ?_
    refine sq rfl rfl hn rfl (q_loadpA rfl rfl Tryz.underlying36 rfl sz36 rfl rfl seesF0) ?_
    refine sq rfl rfl hn rfl (q_move rfl rfl) ?_
    refine stepW (s_call [] (fun _ => bounds_ok r 48 a 0 d0 l (fun d => (heldN r d a : Int)) (fun d _ => heldN_bd r v d a) (by simp only [List.length_cons] at ho64; omega) (fun d hd => held_ok r d a 0 v (hd64 d hd))) rfl (guard_none rfl) rfl (nb hn rfl) (fun _ => trivial) rfl rfl (.refl _)) fun _ => ?_
    refine stepW (s_store rfl rfl rfl rfl rfl rfl (id := 6) rfl sz48 rfl (Nat.le_of_ble_eq_true rfl) rfl trivial) fun _ => ?_
    refine sq rfl rfl hn rfl (q_assign rfl rfl) ?_
    refine run_nil ?_
    refine aend_then ?_
    refine awp_ret ?_
    exact ret_E (.inl rfl) ⟨(d0 :: l, 0), hx⟩ (hands_2d rfl (.d (.cellA rfl (id := 6) rfl Tryz.underlying48 rfl sz48 rfl rfl)) (.tmp rfl)) trivial
theorem Owed_eff (r : Reg) (a c day : Int) : EffAt Tryz.prog 22 [.d (regD r), .d (.int .i64 a), .d (.int .i64 c), .d (.int .i64 day)] [] (X := AskX r (houseB r a && houseB r c) day) (fun x => .d (.tup [.agg [.int .i64 (owedR r a c x.1.1).1, .int .i64 (owedR r a c x.1.1).2], .int .i64 x.1.2])) (fun _ => []) := by
  refine EffAt.of_awp Tryz.func22 rfl (by kernel_rfl) rfl fun Γ hn => ?_
  refine awp_seq ?_
  refine awp_region ?_
  refine stepW (s_box 4 rfl rfl rfl (nb hn rfl) rfl rfl) fun b4 => ?_
  refine stepW (s_alloc 8 rfl rfl rfl (nb hn rfl) zr48 rfl rfl) fun b8 => ?_
  refine sq rfl rfl hn rfl (q_assign rfl rfl) ?_
  refine run_nil ?_
  refine aend_then ?_
  refine awp_seq ?_
  refine gh_awp (g_freeze (t := 4) 4 rfl (nb hn rfl) rfl rfl trivial) ?_
  refine d_start (W := fun b => True) fmo ?_
  refine d1q (i := 0) rfl (by kernel_rfl) (fun _ _ _ _ h => h) rfl rfl hn rfl (q_loadpA rfl rfl Tryz.underlying36 rfl sz36 rfl rfl seesFA) ?_
  refine d1q (i := 1) rfl (by kernel_rfl) (fun _ _ _ _ h => h) rfl rfl hn rfl (q_loadpA rfl rfl Tryz.underlying36 rfl sz36 rfl rfl seesFA) ?_
  refine d1q (i := 2) rfl (by kernel_rfl) (fun _ _ _ _ h => h) rfl rfl hn rfl (q_move rfl rfl) ?_
  refine d1q (i := 9) rfl (by kernel_rfl) (fun _ _ _ _ h => h) rfl rfl hn rfl (q_move rfl rfl) ?_
  refine d1_of_d2 ?_
  refine d2_one (i := 3) (by kernel_rfl) rfl (s_call [] (fun _ => house_ok r a) rfl (guard_none rfl) rfl (nb hn rfl) (fun _ => trivial) rfl rfl (.refl _)) fun _ => ?_
  refine d2_of_d1 ?_
  refine d1q (i := 4) rfl (by kernel_rfl) (fun _ _ _ _ h => h) rfl rfl hn rfl (q_move rfl rfl) ?_
  refine d1g (i := 5) [] rfl (by kernel_rfl) (fun _ _ _ _ h => h) (guard_some rfl rfl rfl) rfl hn rfl (fun hc => trivial) (fun hc => q_loadpA rfl rfl Tryz.underlying36 rfl sz36 rfl rfl seesFA) ?_
  refine d1g (i := 6) [] rfl (by kernel_rfl) (fun _ _ _ _ h => h) (guard_some rfl rfl rfl) rfl hn rfl (fun hc => trivial) (fun hc => q_move rfl rfl) ?_
  refine d1_of_d2 ?_
  refine d2_one (i := 7) (by kernel_rfl) rfl (s_call [(18, _), (19, _)] (fun hc => house_ok r c) rfl (guard_some rfl rfl rfl) rfl (nb hn rfl) (fun hc => ⟨⟨_, rfl, hc⟩, ⟨_, rfl, hc⟩, trivial⟩) rfl rfl (.refl _)) fun _ => ?_
  refine d2_of_d1 ?_
  refine d1q (i := 8) rfl (by kernel_rfl) (fun _ _ _ _ h => h) rfl rfl hn rfl (q_and rfl rfl rfl (by simp_all)) ?_
  refine d1_of_d2 ?_
  refine d2_one (i := 10) (by kernel_rfl) rfl (s_callE (asked_ok r (houseB r a && houseB r c) day) rfl rfl rfl (nb hn rfl) (.d rfl) rfl (.refl _) trivial (fun _ => rfl) (fun _ _ => trivial)) fun ⟨⟨out, e⟩, hx⟩ => ?_
  refine d2_of_d1 ?_
  refine d1q (i := 11) rfl (by kernel_rfl) (fun _ _ _ _ h => h) rfl rfl hn rfl (q_move rfl rfl) ?_
  refine d1q (i := 12) rfl (by kernel_rfl) (fun _ _ _ _ h => h) rfl rfl hn rfl (q_extractd rfl rfl rfl) ?_
  refine d1q (i := 13) rfl (by kernel_rfl) (fun _ _ _ _ h => h) rfl rfl hn rfl (q_extractd rfl rfl rfl) ?_
  refine d1q (i := 14) rfl (by kernel_rfl) (fun _ _ _ _ h => h) rfl rfl hn rfl (q_assign rfl rfl) ?_
  refine d1q (i := 15) rfl (by kernel_rfl) (fun _ _ _ _ h => h) rfl rfl hn rfl (q_assign rfl rfl) ?_
  refine d1_of_d2 ?_
  refine d2_done (by kernel_rfl) ?_
  refine aend_then ?_
  refine awp_seq ?_
  refine awp_seq ?_
  refine awp_region ?_
  refine sq rfl rfl hn rfl (q_move rfl rfl) ?_
  refine sq rfl rfl hn rfl (q_neq rfl rfl rfl) ?_
  refine run_nil ?_
  refine aend_then ?_
  refine awp_cond rfl (fun hb0 => ?_) (fun hb0 => ?_)
  · skip
    have hee : e ≠ 0 := by simpa using hb0
    obtain rfl := ask_bad hx hee
    refine awp_seq ?_
    refine awp_region ?_
    refine sq rfl rfl hn rfl (q_buildd rfl bt48 rfl rfl rfl rfl rfl) ?_
    refine sq rfl rfl hn rfl (q_move rfl rfl) ?_
    refine stepW (s_store rfl rfl rfl rfl rfl rfl (id := 8) rfl sz48 rfl (Nat.le_of_ble_eq_true rfl) rfl trivial) fun _ => ?_
    refine sq rfl rfl hn rfl (q_assign rfl rfl) ?_
    refine run_nil ?_
    refine aend_then ?_
    refine awp_ret ?_
    refine aend_then_ret ?_
    exact ret_E (.inl rfl) ⟨([], e), hx⟩ (hands_2d rfl (.d (.cellA rfl (id := 8) rfl Tryz.underlying48 rfl sz48 rfl rfl)) (.tmp rfl)) trivial
  · skip
    have he0 : e = 0 := by simpa using hb0
    subst he0
    obtain ⟨v, his, n, rfl, hN, hev, hne⟩ := ask_good hx
    have hd64 := ev_bd v hN hev
    have ho64 : out.length ≤ 64 := hev.2.1
    obtain ⟨d0, l, rfl⟩ : ∃ d0 l, out = d0 :: l := by cases out with
      | nil => exact absurd rfl hne
      | cons d l => exact ⟨d, l, rfl⟩
    refine awp_skip ?_
    refine aend_then ?_
    refine awp_seq ?_
    refine awp_region ?_
    refine sq rfl rfl hn rfl (q_move rfl rfl) ?_
    refine sq rfl rfl hn rfl (q_move rfl rfl) ?_
    refine sq rfl rfl hn rfl (q_buildd rfl bt100 rfl rfl rfl rfl rfl) ?_
    refine sq rfl rfl hn rfl (q_loadpA rfl rfl Tryz.underlying36 rfl sz36 rfl rfl seesF0) ?_
    refine sq rfl rfl hn rfl (q_move rfl rfl) ?_
    refine stepW (s_call [] (fun _ => bounds_ok r 50 a c d0 l (fun d => openN r d a c) (fun d _ => openN_bd r v d a c) (by simp only [List.length_cons] at ho64; omega) (fun d hd => open_ok r d a c v (hd64 d hd))) rfl (guard_none rfl) rfl (nb hn rfl) (fun _ => trivial) rfl rfl (.refl _)) fun _ => ?_
    refine stepW (s_store rfl rfl rfl rfl rfl rfl (id := 8) rfl sz48 rfl (Nat.le_of_ble_eq_true rfl) rfl trivial) fun _ => ?_
    refine sq rfl rfl hn rfl (q_assign rfl rfl) ?_
    refine run_nil ?_
    refine aend_then ?_
    refine awp_ret ?_
    exact ret_E (.inl rfl) ⟨(d0 :: l, 0), hx⟩ (hands_2d rfl (.d (.cellA rfl (id := 8) rfl Tryz.underlying48 rfl sz48 rfl rfl)) (.tmp rfl)) trivial
theorem Surely1_ok (r : Reg) (v : Valid r) (d s : Nat) (a : Int) (hd : d < 18446744073709551616) (hs : s < 4) : PureAt Tryz.prog 52 [.int .u64 (d : Nat), .ptr (regC r), .ptr [.int .i64 (s : Nat)], .ptr [.int .i64 a]] (.bool ((placesA r d).getD s 0 == a)) := by
  refine PureAt.of_awp Tryz.func52 rfl (by kernel_rfl) (Nat.le_of_ble_eq_true rfl) fun Γ hn hl => ?_
  have hpl := placesA_len r d
  refine awp_seq ?_
  refine awp_region ?_
  refine sq rfl rfl hn rfl (q_assign rfl rfl) ?_
  refine run_nil ?_
  refine aend_then ?_
  refine awp_seq ?_
  refine d_start (W := fun b => True) fmo ?_
  refine d1q (i := 0) rfl (by kernel_rfl) (fun _ _ _ _ h => h) rfl rfl hn rfl (q_loadpA rfl rfl Tryz.underlying36 rfl sz36 rfl rfl seesFA) ?_
  refine d1q (i := 1) rfl (by kernel_rfl) (fun _ _ _ _ h => h) rfl rfl hn rfl (q_move rfl rfl) ?_
  refine d1q (i := 3) rfl (by kernel_rfl) (fun _ _ _ _ h => h) rfl rfl hn rfl (q_loadp rfl rfl Tryz.underlying3 rfl seesFA) ?_
  refine d1q (i := 5) rfl (by kernel_rfl) (fun _ _ _ _ h => h) rfl rfl hn rfl (q_loadp rfl rfl Tryz.underlying3 rfl seesFA) ?_
  refine d1_of_d2 ?_
  refine d2_one (i := 2) (by kernel_rfl) rfl (s_call [] (fun _ => places_ok r d v hd) rfl (guard_none rfl) rfl (nb hn rfl) (fun _ => trivial) rfl rfl (.refl _)) fun _ => ?_
  refine d2_of_d1 ?_
  refine d1q (i := 4) rfl (by kernel_rfl) (fun _ _ _ _ h => h) rfl rfl hn rfl (q_indexAgg (i := s) rfl rfl rfl Tryz.underlying94 Tryz.underlying3 rfl sz3 rfl (by omega) (mget (getD_some (by omega)))) ?_
  refine d1q (i := 6) rfl (by kernel_rfl) (fun _ _ _ _ h => h) rfl rfl hn rfl (q_eql rfl rfl rfl) ?_
  refine d1q (i := 7) rfl (by kernel_rfl) (fun _ _ _ _ h => h) rfl rfl hn rfl (q_assign rfl rfl) ?_
  refine d1_of_d2 ?_
  refine d2_done (by kernel_rfl) ?_
  refine aend_then ?_
  refine awp_ret ?_
  exact ret_1 (.inl rfl) hl rfl (.tmp rfl)
theorem Surely_eff (r : Reg) (a day : Int) : EffAt Tryz.prog 23 [.d (regD r), .d (.int .i64 a), .d (.int .i64 day)] [] (X := AskX r (houseB r a) day) (fun x => .d (.tup [ints (surelyR r a x.1.1), .int .i64 x.1.2])) (fun _ => []) := by
  refine EffAt.of_awp Tryz.func23 rfl (by kernel_rfl) rfl fun Γ hn => ?_
  refine awp_seq ?_
  refine awp_region ?_
  refine stepW (s_box 3 rfl rfl rfl (nb hn rfl) rfl rfl) fun b3 => ?_
  refine stepW (s_box 4 rfl rfl rfl (nb hn rfl) rfl rfl) fun b4 => ?_
  refine sq rfl rfl hn rfl (q_assign rfl rfl) ?_
  refine sq rfl rfl hn rfl (q_assign rfl rfl) ?_
  refine run_nil ?_
  refine aend_then ?_
  refine awp_seq ?_
  refine gh_awp (g_freeze (t := 3) 3 rfl (nb hn rfl) rfl rfl trivial) ?_
  refine gh_awp (g_freeze (t := 4) 4 rfl (nb hn rfl) rfl rfl trivial) ?_
  refine d_start (W := fun b => True) fmo ?_
  refine d1q (i := 0) rfl (by kernel_rfl) (fun _ _ _ _ h => h) rfl rfl hn rfl (q_loadpA rfl rfl Tryz.underlying36 rfl sz36 rfl rfl seesFA) ?_
  refine d1q (i := 1) rfl (by kernel_rfl) (fun _ _ _ _ h => h) rfl rfl hn rfl (q_loadpA rfl rfl Tryz.underlying36 rfl sz36 rfl rfl seesFA) ?_
  refine d1q (i := 2) rfl (by kernel_rfl) (fun _ _ _ _ h => h) rfl rfl hn rfl (q_loadp rfl rfl Tryz.underlying3 rfl seesFA) ?_
  refine d1q (i := 4) rfl (by kernel_rfl) (fun _ _ _ _ h => h) rfl rfl hn rfl (q_move rfl rfl) ?_
  refine d1_of_d2 ?_
  refine d2_one (i := 3) (by kernel_rfl) rfl (s_call [] (fun _ => house_ok r a) rfl (guard_none rfl) rfl (nb hn rfl) (fun _ => trivial) rfl rfl (.refl _)) fun _ => ?_
  refine d2_of_d1 ?_
  refine d1_of_d2 ?_
  refine d2_one (i := 5) (by kernel_rfl) rfl (s_callE (asked_ok r (houseB r a) day) rfl rfl rfl (nb hn rfl) (.d rfl) rfl (.refl _) trivial (fun _ => rfl) (fun _ _ => trivial)) fun ⟨⟨out, e⟩, hx⟩ => ?_
  refine d2_of_d1 ?_
  refine d1q (i := 6) rfl (by kernel_rfl) (fun _ _ _ _ h => h) rfl rfl hn rfl (q_move rfl rfl) ?_
  refine d1q (i := 7) rfl (by kernel_rfl) (fun _ _ _ _ h => h) rfl rfl hn rfl (q_extractd rfl rfl rfl) ?_
  refine d1q (i := 8) rfl (by kernel_rfl) (fun _ _ _ _ h => h) rfl rfl hn rfl (q_extractd rfl rfl rfl) ?_
  refine d1q (i := 9) rfl (by kernel_rfl) (fun _ _ _ _ h => h) rfl rfl hn rfl (q_assign rfl rfl) ?_
  refine d1q (i := 10) rfl (by kernel_rfl) (fun _ _ _ _ h => h) rfl rfl hn rfl (q_assign rfl rfl) ?_
  refine d1_of_d2 ?_
  refine d2_done (by kernel_rfl) ?_
  refine aend_then ?_
  refine awp_seq ?_
  refine awp_seq ?_
  refine awp_region ?_
  refine sq rfl rfl hn rfl (q_move rfl rfl) ?_
  refine sq rfl rfl hn rfl (q_neq rfl rfl rfl) ?_
  refine run_nil ?_
  refine aend_then ?_
  refine awp_cond rfl (fun hb0 => ?_) (fun hb0 => ?_)
  · skip
    have hee : e ≠ 0 := by simpa using hb0
    obtain rfl := ask_bad hx hee
    refine awp_seq ?_
    refine awp_region ?_
    refine sq rfl rfl hn rfl (q_move rfl rfl) ?_
    refine sq rfl rfl hn rfl (q_assign rfl rfl) ?_
    refine sq rfl rfl hn rfl (q_assign rfl rfl) ?_
    refine run_nil ?_
    refine aend_then ?_
    refine awp_ret ?_
    refine aend_then_ret ?_
    exact ret_E (.inl rfl) ⟨([], e), hx⟩ ((hands_2d rfl (.tmp rfl) (.tmp rfl)).le (.tup (.cons (.nil 1) (.refl _)))) trivial
  · skip
    have he0 : e = 0 := by simpa using hb0
    subst he0
    obtain ⟨v, his, n, rfl, hN, hev, hne⟩ := ask_good hx
    have hd64 := ev_bd v hN hev
    have ho64 : out.length ≤ 64 := hev.2.1
    have hs4 := v.s4
    refine awp_skip ?_
    refine aend_then ?_
    refine awp_seq ?_
    refine awp_region ?_
    refine sq rfl rfl hn rfl (q_assign rfl rfl) ?_
    refine run_nil ?_
    refine aend_then ?_
    refine awp_seq ?_
    refine awp_seq ?_
    refine gh_awp (g_nil (t := 10) (id := 10) 3 1 rfl (nb hn rfl)) ?_
    refine awp_region ?_
    refine sq rfl rfl hn rfl (q_fieldAddrp rfl rfl Tryz.underlying36 rfl sz22 rfl) ?_
    refine sq rfl rfl hn rfl (q_loadp rfl rfl Tryz.underlying22 rfl seesF0) ?_
    refine sq rfl rfl hn rfl (q_len rfl rfl Tryz.underlying22) ?_
    refine sq rfl rfl hn rfl (q_move rfl rfl) ?_
    refine run_nil ?_
    refine aend_then ?_
    refine awp_block ?_
    refine awp_loop_on (ι := {x : Nat × Value // x.1 ≤ r.start.length}) (fun x => (27, true, .d (.int .i64 (x.1.1 : Nat))) :: (10, true, .val x.1.2) :: anys [28, 29, 11, 30, 31, 32, 33, 34, 35, 36, 37]) (fun x => (10, .row x.1.2 3 1 ((((List.range x.1.1).filter fun s => out.all fun d => (placesA r d).getD s 0 == a).map Int.ofNat).map intE)) :: gones [11]) (fun x => r.start.length - x.1.1) ⟨(0, .slice none 0 0), by simp⟩ ⟨.inl rfl, .inl rfl, holdT_anys _⟩ ⟨.inl rfl, holdR_gones _⟩ ?_
    rintro ⟨⟨i, vv⟩, hi⟩
    dsimp only
    dsimp only at hi
    refine awp_seq ?_
    refine awp_region ?_
    refine sq rfl rfl hn rfl (q_lss rfl rfl rfl) ?_
    refine run_nil ?_
    refine aend_then ?_
    refine awp_seq ?_
    refine awp_cond rfl (fun hb1 => ?_) (fun hb1 => ?_)
    · try simp only [decide_eq_true_eq, decide_eq_false_iff_not, Bool.and_eq_true, Bool.or_eq_true, Bool.and_eq_false_iff, Bool.or_eq_false_iff, Bool.not_eq_true', Bool.not_eq_false', beq_iff_eq, bne_iff_ne, ne_eq, beq_eq_false_iff_ne, bne_eq_false_iff_eq, Int.not_lt, Int.not_le] at hb1
      have hlt : i < r.start.length := by simp only [List.length_map] at hb1; omega
      refine awp_skip ?_
      refine aend_then ?_
      refine awp_seq ?_
      refine awp_block ?_
      refine awp_seq ?_
      refine awp_region ?_
      refine sq rfl rfl hn rfl (q_move rfl rfl) ?_
      refine stepW (s_alloc 11 rfl rfl rfl (nb hn rfl) zr3 rfl rfl) fun b11 => ?_
      refine stepW (s_store1 rfl rfl rfl rfl rfl rfl (id := 11) rfl sz3 (Nat.le_of_ble_eq_true rfl) rfl trivial) fun _ => ?_
      refine run_nil ?_
      refine aend_then ?_
      refine awp_seq ?_
      refine gh_awp (g_freeze (t := 11) 11 rfl (nb hn rfl) rfl rfl trivial) ?_
      refine awp_region ?_
      refine sq rfl rfl hn rfl (q_move rfl rfl) ?_
      refine sq rfl rfl hn rfl (q_makeFuncd rfl rfl rfl) ?_
      refine stepW (s_call [] (fun _ => all_done out (fun d => (placesA r d).getD i 0 == a) 52 [] [.ptr (regC r), .ptr [.int .i64 (i : Nat)], .ptr [.int .i64 a]] (fun d hd => Surely1_ok r v d i a (hd64 d hd) (by omega))) rfl (guard_none rfl) rfl (nb hn rfl) (fun _ => trivial) rfl rfl (.refl _)) fun _ => ?_
      refine run_nil ?_
      refine aend_then ?_
      refine awp_cond rfl (fun hb2 => ?_) (fun hb2 => ?_)
      · skip
        refine awp_region ?_
        refine sq rfl rfl hn rfl (q_move rfl rfl) ?_
        refine sq rfl rfl hn rfl (q_loadp rfl rfl Tryz.underlying3 rfl seesF0) ?_
        refine stepW (s_buildSlice rfl rfl rfl (nb hn rfl) Tryz.underlying22 sz3 zr3 rfl rfl rfl (show _ = [.d (.int .i64 0)] from by kernel_rfl) (by kernel_rfl) rfl (fill_nat rfl) rfl rfl rfl) fun _ => ?_
        refine stepW (s_append (id := 10) rfl rfl rfl (nb hn rfl) elt22 trivial rfl rfl rfl (by have := filter_len (p := fun s => out.all fun d => (placesA r d).getD s 0 == a) (n := i); simp [chunk] at this ⊢; omega) (by have := filter_len (p := fun s => out.all fun d => (placesA r d).getD s 0 == a) (n := i); simp [chunk] at this ⊢; omega) (fun b hb => trivial)) fun v36 => ?_
        refine sq rfl rfl hn rfl (q_assign rfl rfl) ?_
        refine run_nil ?_
        refine aend_block ?_
        refine aend_then ?_
        refine awp_region ?_
        refine sq rfl rfl hn rfl (q_add rfl rfl rfl (r := ((i + 1 : Nat) : Int)) (i64w (by omega) (by omega))) ?_
        refine sq rfl rfl hn rfl (q_move rfl rfl) ?_
        refine run_nil ?_
        exact aend_round_on ⟨(i + 1, v36), by simp only; omega⟩ ⟨.inl rfl, .inl rfl, holdT_anys _⟩ ⟨.inl (congrArg (fun z => some (Res.row v36 3 1 z)) (by rw [filter_t hb2, List.map_append]; rfl)), holdR_gones _⟩ (by simp only; omega) (by repeat (first | exact kr _ | refine kc rfl ?_)) (by repeat (first | exact kr _ | refine kc rfl ?_))
      · skip
        refine awp_skip ?_
        refine aend_block ?_
        refine aend_then ?_
        refine awp_region ?_
        refine sq rfl rfl hn rfl (q_add rfl rfl rfl (r := ((i + 1 : Nat) : Int)) (i64w (by omega) (by omega))) ?_
        refine sq rfl rfl hn rfl (q_move rfl rfl) ?_
        refine run_nil ?_
        exact aend_round_on ⟨(i + 1, vv), by simp only; omega⟩ ⟨.inl rfl, .inl rfl, holdT_anys _⟩ ⟨.inl (congrArg (fun z => some (Res.row vv 3 1 z)) (by rw [filter_f hb2])), holdR_gones _⟩ (by simp only; omega) (by repeat (first | exact kr _ | refine kc rfl ?_)) (by repeat (first | exact kr _ | refine kc rfl ?_))
    · try simp only [decide_eq_true_eq, decide_eq_false_iff_not, Bool.and_eq_true, Bool.or_eq_true, Bool.and_eq_false_iff, Bool.or_eq_false_iff, Bool.not_eq_true', Bool.not_eq_false', beq_iff_eq, bne_iff_ne, ne_eq, beq_eq_false_iff_ne, bne_eq_false_iff_eq, Int.not_lt, Int.not_le] at hb1
      refine awp_exit ?_
      refine aend_then_exit ?_
      refine aend_then_exit ?_
      refine aend_block_exit ?_
      refine aend_then ?_
      refine awp_seq ?_
      refine awp_region ?_
      refine sq rfl rfl hn rfl (q_move rfl rfl) ?_
      refine sq rfl rfl hn rfl (q_assign rfl rfl) ?_
      refine sq rfl rfl hn rfl (q_assign rfl rfl) ?_
      refine run_nil ?_
      refine aend_then ?_
      refine awp_ret ?_
      refine gh_end (g_row (t := 6) (id := 10) rfl rfl) ?_
      exact ret_E (.inl rfl) ⟨(out, 0), hx⟩ ((hands_2d rfl (.tmp rfl) (.tmp rfl)).eq (by have hie : i = r.start.length := by { simp only [List.length_map] at hb1; omega }; subst hie; simp only [surelyR, show out.isEmpty = false by cases out <;> simp at hne ⊢, cond_false])) trivial
end Go.Proofs.YtnbmmopjkkofoaaGreat
namespace Go.Proofs.YtnbmmopjkkofoaaGreat
open Go.RowKit
set_option maxRecDepth 20000
set_option linter.all false
/-- The register of the first entries, without sights. -/
def prefR (r : Reg) (k : Nat) : Reg := ⟨r.houses, r.start, r.entries.take k, []⟩
theorem valid_pref {r : Reg} (v : Valid r) (k : Nat) : Valid (prefR r k) :=
  ⟨v.h1, v.h4, v.s1, v.s4, by have := v.e6; simp only [prefR, List.length_take]; omega, Nat.zero_le _, v.st, fun e he => v.en e (List.mem_of_mem_take he), fun _ h => (by cases h)⟩
def firstGo (r : Reg) : Nat → Nat → Int × Int
  | 0, _ => (0, 7)
  | k + 1, i => bif goesB (prefR r (i + 1)) 0 0 0 then firstGo r k (i + 1) else ((i : Nat), 0)
def firstR (r : Reg) : Int × Int := if checkE r ≠ 0 then (0, checkE r) else firstGo r r.entries.length 0
theorem dropF_sub {α : Type} {out : List Int} {x : α} : ∀ {k : Nat} {l : List α}, x ∈ dropF out k l → x ∈ l
  | _, [], h => h
  | k, y :: l, h => by
    unfold dropF at h
    cases hb : (out.any fun n => (k : Int) == n) <;> rw [hb] at h
    · rcases List.mem_cons.1 h with rfl | h
      · exact List.mem_cons_self
      · exact List.mem_cons_of_mem _ (dropF_sub h)
    · exact List.mem_cons_of_mem _ (dropF_sub h)
theorem valid_drop {r : Reg} (v : Valid r) (out : List Int) : Valid (dropR r out) :=
  ⟨v.h1, v.h4, v.s1, v.s4, Nat.le_trans dropF_len v.e6, Nat.le_trans dropF_len v.g4, v.st, fun e he => v.en e (dropF_sub he), fun s hs => v.si s (dropF_sub hs)⟩
/-- The first list of many, from a number on, without which there is a truth. -/
def leaveS (r : Reg) (S : Nat) : Nat → List Int → Nat → Option (List Int)
  | 0, out, _ => bif goesB (dropR r out) 0 0 0 then some out else none
  | k + 1, out, f => (List.range' f (S - f)).findSome? fun (i : Nat) => leaveS r S k (out ++ [(i : Int)]) (i + 1)
def leaveN (r : Reg) (S k : Nat) (out : List Int) (i : Nat) : Option (List Int) := (List.range' i (S - i)).findSome? fun (i : Nat) => leaveS r S k (out ++ [(i : Int)]) (i + 1)
theorem leaveN_step {r : Reg} {S k : Nat} {out : List Int} {i : Nat} (h : i < S) : leaveN r S k out i = (leaveS r S k (out ++ [(i : Int)]) (i + 1)).or (leaveN r S k out (i + 1)) := by
  unfold leaveN
  rw [show S - i = (S - (i + 1)) + 1 by omega, List.range'_succ, List.findSome?_cons]
  cases leaveS r S k (out ++ [(i : Int)]) (i + 1) <;> rfl
theorem leaveN_end {r : Reg} {S k : Nat} {out : List Int} {i : Nat} (h : S ≤ i) : leaveN r S k out i = none := by
  unfold leaveN
  rw [show S - i = 0 by omega]
  rfl
@[reducible] def leaveCa (r : Reg) (b2 b3 S : Nat) : List TV := [.val (.pointer (some ⟨b3, 0, none⟩)), .d (.ptr (regC r)), .d (.ptr [.int .i64 (S : Nat)]), .val (.pointer (some ⟨b2, 0, none⟩))]
@[reducible] def leaveRs (r : Reg) (b2 b3 S : Nat) (x : D) : List (Nat × Res) := [(1002, .box b2 76 [.fn (.func 32) [] (leaveCa r b2 b3 S)]), (1003, .box b3 22 [.d x])]
def LeaveX (r : Reg) (S k : Nat) (out : List Int) (f : Nat) : Type := {x : D // ∀ l, leaveS r S k out f = some l → x = ints l}
def LeaveOK (r : Reg) (b2 b3 S k : Nat) : Prop := ∀ (out : List Int) (f : Nat) (x : D), f ≤ 100 → out.length + k ≤ 100 →
  EffAt Tryz.prog 32 (.d (ints out) :: .d (.int .i64 (f : Nat)) :: .d (.int .i64 (k : Nat)) :: leaveCa r b2 b3 S) (leaveRs r b2 b3 S x) (X := LeaveX r S k out f) (fun _ => .d (.bool (leaveS r S k out f).isSome)) (fun x => leaveRs r b2 b3 S x.1)
theorem clone_ok (l : List Int) (hl : l.length ≤ 1000) : EffAt Tryz.prog 34 [.d (ints l)] [] (X := Value) (fun v => .val v) (fun v => [(1010, .row v 3 1 (l.map intE))]) := by
  refine EffAt.of_awp Tryz.func34 rfl (by kernel_rfl) rfl fun Γ hn => ?_
  refine awp_seq ?_
  refine awp_region ?_
  refine sq rfl rfl hn rfl (q_assign rfl rfl) ?_
  refine run_nil ?_
  refine aend_then ?_
  refine awp_seq ?_
  refine awp_seq ?_
  refine awp_region ?_
  refine sq rfl rfl hn rfl (q_move rfl rfl) ?_
  refine stepW (s_eqlNil rfl rfl rfl (nb hn rfl) Tryz.underlying22 rfl) fun ⟨nil4, hnil4⟩ => ?_
  refine run_nil ?_
  refine aend_then ?_
  refine awp_cond rfl (fun hb0 => ?_) (fun hb0 => ?_)
  · skip
    obtain rfl : l = [] := by have h0 := hnil4 hb0; simpa using h0
    refine awp_seq ?_
    refine awp_region ?_
    refine sq rfl rfl hn rfl (q_assign rfl rfl) ?_
    refine run_nil ?_
    refine aend_then ?_
    refine awp_ret ?_
    refine aend_then_ret ?_
    refine gh_end (g_nil (t := 2) (id := 1010) 3 1 rfl (nb hn rfl)) ?_
    exact ret_E (.inl rfl) (.slice none 0 0) (hands_1 rfl (.tmp rfl)) ⟨rfl, trivial⟩
  · skip
    refine awp_skip ?_
    refine aend_then ?_
    refine awp_seq ?_
    refine awp_region ?_
    refine stepW (s_buildRow 1010 rfl rfl rfl (nb hn rfl) Tryz.underlying22 sz3 zr3 rfl rfl rfl (show _ = [] from by kernel_rfl) (by kernel_rfl) rfl rfl rfl rfl rfl) fun v5 => ?_
    refine sq rfl rfl hn rfl (q_move rfl rfl) ?_
    refine stepW (s_append (id := 1010) rfl rfl rfl (nb hn rfl) elt22 trivial rfl rfl rfl (by simp [chunk]; omega) (by simp [chunk]; omega) (fun b hb => trivial)) fun v7 => ?_
    refine sq rfl rfl hn rfl (q_assign rfl rfl) ?_
    refine run_nil ?_
    refine aend_then ?_
    refine awp_ret ?_
    exact ret_E (.inl rfl) v7 (hands_1 rfl (.tmp rfl)) ⟨rfl, trivial⟩
theorem pref_take {α β : Type} {l : List α} {f : α → β} {i : Nat} {x : α} (h : l[i]? = some x) : (l.take i).map f ++ [f x] = (l.take (i + 1)).map f := by
  rw [List.take_add_one, h]; simp
theorem first_eff (r : Reg) : EffAt Tryz.prog 9 [.d (regD r)] [] (X := Unit) (fun _ => .d (.tup [.int .i64 (firstR r).1, .int .i64 (firstR r).2])) (fun _ => []) := by
  refine EffAt.of_awp Tryz.func9 rfl (by kernel_rfl) rfl fun Γ hn => ?_
  refine awp_seq ?_
  refine awp_region ?_
  refine stepW (s_box 1 rfl rfl rfl (nb hn rfl) rfl rfl) fun b1 => ?_
  refine sq rfl rfl hn rfl (q_assign rfl rfl) ?_
  refine sq rfl rfl hn rfl (q_assign rfl rfl) ?_
  refine run_nil ?_
  refine aend_then ?_
  refine awp_seq ?_
  refine awp_seq ?_
  refine awp_region ?_
  refine sq rfl rfl hn rfl (q_loadAd rfl rfl (id := 1) rfl Tryz.underlying36 rfl sz36 rfl rfl sees0) ?_
  refine stepW (s_call [] (fun _ => CheckRegister_ok _) rfl (guard_none rfl) rfl (nb hn rfl) (fun _ => trivial) rfl rfl (.refl _)) fun _ => ?_
  refine sq rfl rfl hn rfl (q_assign rfl rfl) ?_
  refine run_nil ?_
  refine aend_then ?_
  refine awp_seq ?_
  refine awp_region ?_
  refine sq rfl rfl hn rfl (q_move rfl rfl) ?_
  refine sq rfl rfl hn rfl (q_neq rfl rfl rfl) ?_
  refine run_nil ?_
  refine aend_then ?_
  refine awp_cond rfl (fun hb0 => ?_) (fun hb0 => ?_)
  · simp only [bne_iff_ne, ne_eq] at hb0
    have hc0 : checkE r ≠ 0 := hb0
    refine awp_seq ?_
    refine awp_region ?_
    refine sq rfl rfl hn rfl (q_move rfl rfl) ?_
    refine sq rfl rfl hn rfl (q_assign rfl rfl) ?_
    refine sq rfl rfl hn rfl (q_assign rfl rfl) ?_
    refine run_nil ?_
    refine aend_then ?_
    refine awp_ret ?_
    refine aend_then_ret ?_
    exact ret_E (.inl rfl) () ((hands_2d rfl (.tmp rfl) (.tmp rfl)).eq (by rw [firstR, if_pos hc0])) trivial
  · skip
    have hc0 : checkE r = 0 := by simpa using hb0
    have v := valid_of hc0
    have he6 := v.e6
    refine awp_skip ?_
    refine aend_then ?_
    refine awp_seq ?_
    refine awp_region ?_
    refine sq rfl rfl hn rfl (q_fieldAddr rfl rfl Tryz.underlying36 rfl sz3) ?_
    refine sq rfl rfl hn rfl (q_load rfl rfl (id := 1) rfl Tryz.underlying3 rfl rfl sees0) ?_
    refine sq rfl rfl hn rfl (q_fieldAddr rfl rfl Tryz.underlying36 rfl sz22) ?_
    refine sq rfl rfl hn rfl (q_load rfl rfl (id := 1) rfl Tryz.underlying22 rfl rfl sees0) ?_
    refine sq rfl rfl hn rfl (q_buildd rfl bt36 rfl rfl rfl rfl rfl) ?_
    refine stepW (s_alloc 5 rfl rfl rfl (nb hn rfl) zr36 rfl rfl) fun b5 => ?_
    refine stepW (s_store rfl rfl rfl rfl rfl rfl (id := 5) rfl sz36 rfl (Nat.le_of_ble_eq_true rfl) rfl trivial) fun _ => ?_
    refine run_nil ?_
    refine aend_then ?_
    refine awp_seq ?_
    refine awp_seq ?_
    refine gh_awp (gh_nilcell (id := 5) (k := 2) 502 72 6 rfl rfl) ?_
    refine awp_region ?_
    refine sq rfl rfl hn rfl (q_fieldAddr rfl rfl Tryz.underlying36 rfl sz33) ?_
    refine sq rfl rfl hn rfl (q_load rfl rfl (id := 1) rfl Tryz.underlying33 rfl rfl sees0) ?_
    refine sq rfl rfl hn rfl (q_len rfl rfl Tryz.underlying33) ?_
    refine sq rfl rfl hn rfl (q_move rfl rfl) ?_
    refine run_nil ?_
    refine aend_then ?_
    refine awp_block ?_
    refine awp_loop_on (ι := { x : Nat × Value // x.1 ≤ r.entries.length ∧ firstGo r (r.entries.length - x.1) x.1 = firstGo r r.entries.length 0 }) (fun x => (21, true, .d (.int .i64 (x.1.1 : Nat))) :: anys [22, 23, 24, 25, 7, 6, 26, 27, 28, 29, 30, 31, 32, 33, 34, 35, 36, 38]) (fun x => (5, .box b5 36 [.d (.int .i64 r.houses), .d (ints r.start), .val x.1.2, .d .nil]) :: (502, .row x.1.2 72 6 ((r.entries.take x.1.1).map entE)) :: gones [7, 1000]) (fun x => r.entries.length - x.1.1) ⟨(0, .slice none 0 0), by simp, by simp⟩ ⟨.inl rfl, holdT_anys _⟩ ⟨.inl rfl, .inl rfl, holdR_gones _⟩ ?_
    rintro ⟨⟨i, vv⟩, hi, hgo⟩
    dsimp only
    dsimp only at hi hgo
    refine awp_seq ?_
    refine awp_region ?_
    refine sq rfl rfl hn rfl (q_lss rfl rfl rfl) ?_
    refine run_nil ?_
    refine aend_then ?_
    refine awp_seq ?_
    refine awp_cond rfl (fun hb1 => ?_) (fun hb1 => ?_)
    · try simp only [decide_eq_true_eq, decide_eq_false_iff_not, Bool.and_eq_true, Bool.or_eq_true, Bool.and_eq_false_iff, Bool.or_eq_false_iff, Bool.not_eq_true', Bool.not_eq_false', beq_iff_eq, bne_iff_ne, ne_eq, beq_eq_false_iff_ne, bne_eq_false_iff_eq, Int.not_lt, Int.not_le] at hb1
      have hlt : i < r.entries.length := by simpa using hb1
      obtain ⟨x, hx⟩ := ex_get hlt
      refine awp_skip ?_
      refine aend_then ?_
      refine awp_seq ?_
      refine awp_block ?_
      refine awp_seq ?_
      refine awp_region ?_
      refine sq rfl rfl hn rfl (q_move rfl rfl) ?_
      refine sq rfl rfl hn rfl (q_index rfl rfl rfl Tryz.underlying33 sz72 rfl (mget hx)) ?_
      refine sq rfl rfl hn rfl (q_loadpA rfl rfl Tryz.underlying72 rfl sz72 rfl rfl seesF0) ?_
      refine stepW (s_alloc 7 rfl rfl rfl (nb hn rfl) zr72 rfl rfl) fun b7 => ?_
      refine sq rfl rfl hn rfl (q_assign rfl rfl) ?_
      refine stepW (s_store rfl rfl rfl rfl rfl rfl (id := 7) rfl sz72 rfl (Nat.le_of_ble_eq_true rfl) rfl trivial) fun _ => ?_
      refine run_nil ?_
      refine aend_then ?_
      refine awp_seq ?_
      refine awp_region ?_
      refine sq rfl rfl hn rfl (q_fieldAddr rfl rfl Tryz.underlying36 rfl sz33) ?_
      refine sq rfl rfl hn rfl (q_load rfl rfl (id := 5) rfl Tryz.underlying33 rfl rfl sees0) ?_
      refine sq rfl rfl hn rfl (q_loadAd rfl rfl (id := 7) rfl Tryz.underlying72 rfl sz72 rfl rfl sees0) ?_
      refine stepW (s_buildSlice rfl rfl rfl (nb hn rfl) Tryz.underlying33 sz72 zr72 rfl rfl rfl (show _ = [.d (.int .i64 0), .d (.int .i64 0), .d (.int .i64 0), .d (.int .i64 0), .d (.int .i64 0), .d (.int .i64 0)] from by kernel_rfl) (by kernel_rfl) rfl (fill_agg rfl rfl) (allD_d _) (beq_len rfl) (chunk_one rfl)) fun _ => ?_
      refine stepW (s_append (id := 502) rfl rfl rfl (nb hn rfl) elt33 trivial rfl rfl rfl (by simp; omega) (by simp; omega) (fun b hb => trivial)) fun v30 => ?_
      refine sq rfl rfl hn rfl (q_fieldAddr rfl rfl Tryz.underlying36 rfl sz33) ?_
      refine stepW (s_storeRow rfl rfl rfl rfl rfl (rid := 502) rfl (id := 5) rfl sz33 (Nat.le_of_ble_eq_true rfl) rfl trivial) fun _ => ?_
      refine run_nil ?_
      refine aend_then ?_
      refine awp_seq ?_
      rw [show (r.entries.take i).map entE ++ [entE x] = (r.entries.take (i + 1)).map entE from pref_take hx]
      refine awp_region ?_
      refine sq rfl rfl hn rfl (q_loadA rfl rfl (id := 5) rfl Tryz.underlying36 rfl sz36 rfl rfl sees0) ?_
      refine gh_run (g_aggrow (t := 32) (k := 2) (rid := 502) rfl rfl rfl rfl) ?_
      refine stepW (s_callE (work_ok (prefR r (i + 1))) rfl rfl rfl (nb hn rfl) (.d rfl) rfl (by first | exact .refl _ | (repeat (first | exact .refl _ | exact .d (.nil _) | exact .nil _ | refine .cons ?_ ?_ | refine .d ?_ | refine .agg ?_ | refine .tup ?_))) trivial (fun _ => rfl) (fun _ _ => trivial)) fun bw => ?_
      refine sq rfl rfl hn rfl (q_buildd rfl bt61 rfl rfl rfl rfl rfl) ?_
      refine stepW (s_callE (goes_ok (prefR r (i + 1)) (valid_pref v _) bw 0 0 0 _ (by omega) (Nat.zero_le _) (Nat.two_pow_pos _) (good_none _)) rfl rfl rfl (nb hn rfl) (.d rfl) rfl (.refl _) ⟨rfl, trivial⟩ (fun _ => rfl) (fun _ _ => trivial)) fun ⟨M1, hM1⟩ => ?_
      refine sq rfl rfl hn rfl (q_not rfl rfl) ?_
      refine run_nil ?_
      refine aend_then ?_
      refine awp_cond rfl (fun hb2 => ?_) (fun hb2 => ?_)
      · skip
        have hgt : goesB (prefR r (i + 1)) 0 0 0 = false := by simpa using hb2
        have hfr : firstR r = (((i : Nat) : Int), 0) := by rw [firstR, if_neg (by simp [hc0]), ← hgo, show r.entries.length - i = (r.entries.length - (i + 1)) + 1 by omega, firstGo, hgt]; rfl
        refine awp_seq ?_
        refine awp_region ?_
        refine sq rfl rfl hn rfl (q_move rfl rfl) ?_
        refine sq rfl rfl hn rfl (q_assign rfl rfl) ?_
        refine sq rfl rfl hn rfl (q_assign rfl rfl) ?_
        refine run_nil ?_
        refine aend_then ?_
        refine awp_ret ?_
        refine aend_block_ret ?_
        refine aend_then_ret ?_
        refine aend_then_ret ?_
        refine aend_block_ret ?_
        refine aend_then_ret ?_
        exact ret_E (.inl rfl) () ((hands_2d rfl (.tmp rfl) (.tmp rfl)).eq (by rw [hfr])) trivial
      · skip
        have hgt : goesB (prefR r (i + 1)) 0 0 0 = true := by simpa using hb2
        refine awp_skip ?_
        refine aend_block ?_
        refine aend_then ?_
        refine awp_region ?_
        refine sq rfl rfl hn rfl (q_add rfl rfl rfl (r := ((i + 1 : Nat) : Int)) (i64w (by omega) (by omega))) ?_
        refine sq rfl rfl hn rfl (q_move rfl rfl) ?_
        refine run_nil ?_
        exact aend_round_on ⟨(i + 1, v30), by simp only; omega, by simp only; rw [← hgo, show r.entries.length - i = (r.entries.length - (i + 1)) + 1 by omega, firstGo, hgt]; rfl⟩ ⟨.inl rfl, holdT_anys _⟩ ⟨.inl rfl, .inl rfl, holdR_gones _⟩ (by simp only; omega) (by repeat (first | exact kr _ | refine kc rfl ?_)) (by repeat (first | exact kr _ | refine kc rfl ?_))
    · try simp only [decide_eq_true_eq, decide_eq_false_iff_not, Bool.and_eq_true, Bool.or_eq_true, Bool.and_eq_false_iff, Bool.or_eq_false_iff, Bool.not_eq_true', Bool.not_eq_false', beq_iff_eq, bne_iff_ne, ne_eq, beq_eq_false_iff_ne, bne_eq_false_iff_eq, Int.not_lt, Int.not_le] at hb1
      have hie : i = r.entries.length := by simp only [List.length_map] at hb1; omega
      have hfr : firstR r = (0, 7) := by rw [firstR, if_neg (by simp [hc0]), ← hgo, hie, Nat.sub_self]; rfl
      refine awp_exit ?_
      refine aend_then_exit ?_
      refine aend_then_exit ?_
      refine aend_block_exit ?_
      refine aend_then ?_
      refine awp_seq ?_
      refine awp_region ?_
      refine sq rfl rfl hn rfl (q_assign rfl rfl) ?_
      refine sq rfl rfl hn rfl (q_assign rfl rfl) ?_
      refine run_nil ?_
      refine aend_then ?_
      refine awp_ret ?_
      exact ret_E (.inl rfl) () ((hands_2d rfl (.tmp rfl) (.tmp rfl)).eq (by rw [hfr])) trivial
theorem leave_step (r : Reg) (v : Valid r) (b2 b3 S k : Nat) (hS : S ≤ 50) (ih : ∀ k1, k = k1 + 1 → LeaveOK r b2 b3 S k1) (out : List Int) (f : Nat) (x : D) (hf : f ≤ 100) (hk : out.length + k ≤ 100) : EffAt Tryz.prog 32 (.d (ints out) :: .d (.int .i64 (f : Nat)) :: .d (.int .i64 (k : Nat)) :: leaveCa r b2 b3 S) (leaveRs r b2 b3 S x) (X := LeaveX r S k out f) (fun _ => .d (.bool (leaveS r S k out f).isSome)) (fun x => leaveRs r b2 b3 S x.1) := by
  have he6 := v.e6
  have hg4 := v.g4
  refine EffAt.of_awp Tryz.func32 rfl (by kernel_rfl) rfl fun Γ hn => ?_
  refine awp_seq ?_
  refine awp_region ?_
  refine sq rfl rfl hn rfl (q_assign rfl rfl) ?_
  refine run_nil ?_
  refine aend_then ?_
  refine awp_seq ?_
  refine awp_seq ?_
  refine awp_region ?_
  refine sq rfl rfl hn rfl (q_move rfl rfl) ?_
  refine sq rfl rfl hn rfl (q_eql rfl rfl rfl) ?_
  refine run_nil ?_
  refine aend_then ?_
  refine awp_cond rfl (fun hb0 => ?_) (fun hb0 => ?_)
  · try simp only [decide_eq_true_eq, decide_eq_false_iff_not, Bool.and_eq_true, Bool.or_eq_true, Bool.and_eq_false_iff, Bool.or_eq_false_iff, Bool.not_eq_true', Bool.not_eq_false', beq_iff_eq, bne_iff_ne, ne_eq, beq_eq_false_iff_ne, bne_eq_false_iff_eq, Int.not_lt, Int.not_le] at hb0
    obtain rfl : k = 0 := by omega
    refine awp_seq ?_
    refine awp_region ?_
    refine sq rfl rfl hn rfl (q_move rfl rfl) ?_
    refine stepW (s_store1 rfl rfl rfl rfl rfl rfl (id := 1003) rfl sz22 (Nat.le_of_ble_eq_true rfl) rfl trivial) fun _ => ?_
    refine run_nil ?_
    refine aend_then ?_
    refine awp_seq ?_
    refine awp_region ?_
    refine sq rfl rfl hn rfl (q_loadpA rfl rfl Tryz.underlying36 rfl sz36 rfl rfl seesF0) ?_
    refine sq rfl rfl hn rfl (q_move rfl rfl) ?_
    refine stepW (s_call [] (fun _ => without_ok r out (by omega) (by omega)) rfl (guard_none rfl) rfl (nb hn rfl) (fun _ => trivial) rfl rfl (.refl _)) fun _ => ?_
    refine stepW (s_callE (work_ok (dropR r out)) rfl rfl rfl (nb hn rfl) (.d rfl) rfl (.refl _) trivial (fun _ => rfl) (fun _ _ => trivial)) fun bw => ?_
    refine sq rfl rfl hn rfl (q_buildd rfl bt61 rfl rfl rfl rfl rfl) ?_
    refine stepW (s_callE (goes_ok (dropR r out) (valid_drop v out) bw 0 0 0 _ (by omega) (Nat.zero_le _) (Nat.two_pow_pos _) (good_none _)) rfl rfl rfl (nb hn rfl) (.d rfl) rfl (.refl _) ⟨rfl, trivial⟩ (fun _ => rfl) (fun _ _ => trivial)) fun ⟨M1, hM1⟩ => ?_
    refine sq rfl rfl hn rfl (q_assign rfl rfl) ?_
    refine run_nil ?_
    refine aend_then ?_
    refine awp_ret ?_
    refine aend_then_ret ?_
    exact ret_E (.inl rfl) ⟨ints out, fun l h => by cases hg : goesB (dropR r out) 0 0 0 <;> simp [leaveS, hg] at h; rw [h]⟩ ((hands_1 rfl (.tmp rfl)).eq (by cases hg : goesB (dropR r out) 0 0 0 <;> simp [leaveS, hg])) ⟨rfl, rfl, trivial⟩
  · try simp only [decide_eq_true_eq, decide_eq_false_iff_not, Bool.and_eq_true, Bool.or_eq_true, Bool.and_eq_false_iff, Bool.or_eq_false_iff, Bool.not_eq_true', Bool.not_eq_false', beq_iff_eq, bne_iff_ne, ne_eq, beq_eq_false_iff_ne, bne_eq_false_iff_eq, Int.not_lt, Int.not_le] at hb0
    obtain ⟨k, rfl⟩ : ∃ k1, k = k1 + 1 := ⟨k - 1, by omega⟩
    replace ih := ih k rfl
    refine awp_skip ?_
    refine aend_then ?_
    refine awp_seq ?_
    refine awp_seq ?_
    refine awp_region ?_
    refine sq rfl rfl hn rfl (q_move rfl rfl) ?_
    refine sq rfl rfl hn rfl (q_assign rfl rfl) ?_
    refine run_nil ?_
    refine aend_then ?_
    refine awp_block ?_
    refine awp_loop_on (ι := {x : Nat × D // f ≤ x.1 ∧ x.1 ≤ 150 ∧ leaveN r S k out f = leaveN r S k out x.1}) (fun x => (11, true, .d (.int .i64 (x.1.1 : Nat))) :: anys [22, 23, 24, 27, 28, 29, 30, 31, 32, 33, 34, 35, 36, 37, 25, 26]) (fun x => (1002, .box b2 76 [.fn (.func 32) [] (leaveCa r b2 b3 S)]) :: (1003, .box b3 22 [.d x.1.2]) :: gones [1010]) (fun x => S - x.1.1) ⟨(f, x), by simp, by simp only; omega, rfl⟩ ⟨.inl rfl, holdT_anys _⟩ ⟨.inl rfl, .inl rfl, holdR_gones _⟩ ?_
    rintro ⟨⟨i, x1⟩, hfi, hi, hle⟩
    dsimp only
    dsimp only at hfi hi hle
    refine awp_seq ?_
    refine awp_seq ?_
    refine awp_region ?_
    refine sq rfl rfl hn rfl (q_move rfl rfl) ?_
    refine sq rfl rfl hn rfl (q_loadp rfl rfl Tryz.underlying3 rfl seesF0) ?_
    refine sq rfl rfl hn rfl (q_lss rfl rfl rfl) ?_
    refine run_nil ?_
    refine aend_then ?_
    refine awp_cond rfl (fun hb1 => ?_) (fun hb1 => ?_)
    · try simp only [decide_eq_true_eq, decide_eq_false_iff_not, Bool.and_eq_true, Bool.or_eq_true, Bool.and_eq_false_iff, Bool.or_eq_false_iff, Bool.not_eq_true', Bool.not_eq_false', beq_iff_eq, bne_iff_ne, ne_eq, beq_eq_false_iff_ne, bne_eq_false_iff_eq, Int.not_lt, Int.not_le] at hb1
      have hlt : i < S := by omega
      have ih2 := ih (out ++ [(i : Int)]) (i + 1) x1 (by omega) (by simp; omega)
      rw [show ints (out ++ [(i : Int)]) = .slice 1 (out.map intE ++ [[.int .i64 (i : Int)]]) by simp] at ih2
      refine awp_skip ?_
      refine aend_then ?_
      refine awp_seq ?_
      refine awp_block ?_
      refine awp_seq ?_
      refine awp_join_on (e := .normal) (ι := LeaveX r S k (out ++ [(i : Int)]) (i + 1)) (fun x => (37, true, .d (.bool (leaveS r S k (out ++ [(i : Int)]) (i + 1)).isSome)) :: anys [27, 28, 29, 30, 31, 32, 33, 34, 35, 36]) (fun x => (1002, .box b2 76 [.fn (.func 32) [] (leaveCa r b2 b3 S)]) :: (1003, .box b3 22 [.d x.1]) :: gones [1010]) (fun hJ2 => ?_) ?_
      · skip
        refine d_start (W := fun b => True) fmo ?_
        refine d1q (i := 1) rfl (by kernel_rfl) (fun _ _ _ _ h => h) rfl rfl hn rfl (q_move rfl rfl) ?_
        refine d1q (i := 3) rfl (by kernel_rfl) (fun _ _ _ _ h => h) rfl rfl hn rfl (q_move rfl rfl) ?_
        refine d1q (i := 6) rfl (by kernel_rfl) (fun _ _ _ _ h => h) rfl rfl hn rfl (q_move rfl rfl) ?_
        refine d1q (i := 7) rfl (by kernel_rfl) (fun _ _ _ _ h => h) rfl rfl hn rfl (q_add rfl rfl rfl (r := ((i + 1 : Nat) : Int)) (i64w (by omega) rfl)) ?_
        refine d1q (i := 8) rfl (by kernel_rfl) (fun _ _ _ _ h => h) rfl rfl hn rfl (q_move rfl rfl) ?_
        refine d1q (i := 9) rfl (by kernel_rfl) (fun _ _ _ _ h => h) rfl rfl hn rfl (q_sub rfl rfl rfl (r := (k : Nat)) (i64w (by omega) (by omega))) ?_
        refine d1_of_d2 ?_
        refine d2_all 0 [2, 4] (by kernel_rfl) ⟨?_, ?_, ?_, trivial⟩
        · skip
          refine br rfl (quiet_wg _ [] (guard_none rfl) rfl (nb hn rfl) (fun _ => trivial) (fun _ => q_load rfl rfl (id := 1002) rfl Tryz.underlying76 rfl rfl sees0)) fun _ => ?_
          refine d2_of_d1 ?_
          refine d1_of_d2 ?_
          refine d2_all 2 [4] (by kernel_rfl) ⟨?_, ?_, trivial⟩
          · skip
            refine br rfl (s_callE (clone_ok out (by omega)) rfl rfl rfl (nb hn rfl) (.d rfl) rfl (.refl _) trivial (fun _ => rfl) (fun _ _ => trivial)) fun vc => ?_
            refine d2_of_d1 ?_
            refine d1_of_d2 ?_
            refine d2_one (i := 4) (by kernel_rfl) rfl (s_buildSlice rfl rfl rfl (nb hn rfl) Tryz.underlying22 sz3 zr3 rfl rfl rfl (show _ = [.d (.int .i64 0)] from by kernel_rfl) (by kernel_rfl) rfl rfl rfl rfl rfl) fun _ => ?_
            refine d2_of_d1 ?_
            refine d1_of_d2 ?_
            refine d2_one (i := 5) (by kernel_rfl) rfl (s_append (id := 1010) rfl rfl rfl (nb hn rfl) elt22 trivial rfl rfl rfl (by simp [chunk]; omega) (by simp [chunk]; omega) (fun b hb => trivial)) fun v32 => ?_
            refine d2_of_d1 ?_
            refine d1_of_d2 ?_
            refine gh_d2 (g_row (t := 32) (id := 1010) rfl rfl) ?_
            refine d2_one (i := 10) (by kernel_rfl) rfl (s_callE (ih2) rfl rfl rfl (nb hn rfl) (.t rfl) rfl (.refl _) ⟨rfl, rfl, trivial⟩ (fun _ => rfl) (fun _ _ => trivial)) fun ⟨x2, hx2⟩ => ?_
            refine d2_of_d1 ?_
            refine d1_of_d2 ?_
            refine d2_done (by kernel_rfl) ?_
            exact aend_join_on hJ2 ⟨x2, hx2⟩ ⟨.inl rfl, holdT_anys _⟩ ⟨.inl rfl, .inl rfl, holdR_gones _⟩ (by repeat (first | exact kr _ | refine kc rfl ?_)) (by repeat (first | exact kr _ | refine kc rfl ?_))
          · skip
            refine br rfl (s_buildSlice rfl rfl rfl (nb hn rfl) Tryz.underlying22 sz3 zr3 rfl rfl rfl (show _ = [.d (.int .i64 0)] from by kernel_rfl) (by kernel_rfl) rfl rfl rfl rfl rfl) fun _ => ?_
            refine d2_of_d1 ?_
            refine d1_of_d2 ?_
            refine d2_one (i := 2) (by kernel_rfl) rfl (s_callE (clone_ok out (by omega)) rfl rfl rfl (nb hn rfl) (.d rfl) rfl (.refl _) trivial (fun _ => rfl) (fun _ _ => trivial)) fun vc => ?_
            refine d2_of_d1 ?_
            refine d1_of_d2 ?_
            refine d2_one (i := 5) (by kernel_rfl) rfl (s_append (id := 1010) rfl rfl rfl (nb hn rfl) elt22 trivial rfl rfl rfl (by simp [chunk]; omega) (by simp [chunk]; omega) (fun b hb => trivial)) fun v32 => ?_
            refine d2_of_d1 ?_
            refine d1_of_d2 ?_
            refine gh_d2 (g_row (t := 32) (id := 1010) rfl rfl) ?_
            refine d2_one (i := 10) (by kernel_rfl) rfl (s_callE (ih2) rfl rfl rfl (nb hn rfl) (.t rfl) rfl (.refl _) ⟨rfl, rfl, trivial⟩ (fun _ => rfl) (fun _ _ => trivial)) fun ⟨x2, hx2⟩ => ?_
            refine d2_of_d1 ?_
            refine d1_of_d2 ?_
            refine d2_done (by kernel_rfl) ?_
            exact aend_join_on hJ2 ⟨x2, hx2⟩ ⟨.inl rfl, holdT_anys _⟩ ⟨.inl rfl, .inl rfl, holdR_gones _⟩ (by repeat (first | exact kr _ | refine kc rfl ?_)) (by repeat (first | exact kr _ | refine kc rfl ?_))
        · skip
          refine br rfl (s_callE (clone_ok out (by omega)) rfl rfl rfl (nb hn rfl) (.d rfl) rfl (.refl _) trivial (fun _ => rfl) (fun _ _ => trivial)) fun vc => ?_
          refine d2_of_d1 ?_
          refine d1_of_d2 ?_
          refine d2_all 0 [4] (by kernel_rfl) ⟨?_, ?_, trivial⟩
          · skip
            refine br rfl (quiet_wg _ [] (guard_none rfl) rfl (nb hn rfl) (fun _ => trivial) (fun _ => q_load rfl rfl (id := 1002) rfl Tryz.underlying76 rfl rfl sees0)) fun _ => ?_
            refine d2_of_d1 ?_
            refine d1_of_d2 ?_
            refine d2_one (i := 4) (by kernel_rfl) rfl (s_buildSlice rfl rfl rfl (nb hn rfl) Tryz.underlying22 sz3 zr3 rfl rfl rfl (show _ = [.d (.int .i64 0)] from by kernel_rfl) (by kernel_rfl) rfl rfl rfl rfl rfl) fun _ => ?_
            refine d2_of_d1 ?_
            refine d1_of_d2 ?_
            refine d2_one (i := 5) (by kernel_rfl) rfl (s_append (id := 1010) rfl rfl rfl (nb hn rfl) elt22 trivial rfl rfl rfl (by simp [chunk]; omega) (by simp [chunk]; omega) (fun b hb => trivial)) fun v32 => ?_
            refine d2_of_d1 ?_
            refine d1_of_d2 ?_
            refine gh_d2 (g_row (t := 32) (id := 1010) rfl rfl) ?_
            refine d2_one (i := 10) (by kernel_rfl) rfl (s_callE (ih2) rfl rfl rfl (nb hn rfl) (.t rfl) rfl (.refl _) ⟨rfl, rfl, trivial⟩ (fun _ => rfl) (fun _ _ => trivial)) fun ⟨x2, hx2⟩ => ?_
            refine d2_of_d1 ?_
            refine d1_of_d2 ?_
            refine d2_done (by kernel_rfl) ?_
            exact aend_join_on hJ2 ⟨x2, hx2⟩ ⟨.inl rfl, holdT_anys _⟩ ⟨.inl rfl, .inl rfl, holdR_gones _⟩ (by repeat (first | exact kr _ | refine kc rfl ?_)) (by repeat (first | exact kr _ | refine kc rfl ?_))
          · skip
            refine br rfl (s_buildSlice rfl rfl rfl (nb hn rfl) Tryz.underlying22 sz3 zr3 rfl rfl rfl (show _ = [.d (.int .i64 0)] from by kernel_rfl) (by kernel_rfl) rfl rfl rfl rfl rfl) fun _ => ?_
            refine d2_of_d1 ?_
            refine d1_of_d2 ?_
            refine d2_all 0 [5] (by kernel_rfl) ⟨?_, ?_, trivial⟩
            · skip
              refine br rfl (quiet_wg _ [] (guard_none rfl) rfl (nb hn rfl) (fun _ => trivial) (fun _ => q_load rfl rfl (id := 1002) rfl Tryz.underlying76 rfl rfl sees0)) fun _ => ?_
              refine d2_of_d1 ?_
              refine d1_of_d2 ?_
              refine d2_one (i := 5) (by kernel_rfl) rfl (s_append (id := 1010) rfl rfl rfl (nb hn rfl) elt22 trivial rfl rfl rfl (by simp [chunk]; omega) (by simp [chunk]; omega) (fun b hb => trivial)) fun v32 => ?_
              refine d2_of_d1 ?_
              refine d1_of_d2 ?_
              refine gh_d2 (g_row (t := 32) (id := 1010) rfl rfl) ?_
              refine d2_one (i := 10) (by kernel_rfl) rfl (s_callE (ih2) rfl rfl rfl (nb hn rfl) (.t rfl) rfl (.refl _) ⟨rfl, rfl, trivial⟩ (fun _ => rfl) (fun _ _ => trivial)) fun ⟨x2, hx2⟩ => ?_
              refine d2_of_d1 ?_
              refine d1_of_d2 ?_
              refine d2_done (by kernel_rfl) ?_
              exact aend_join_on hJ2 ⟨x2, hx2⟩ ⟨.inl rfl, holdT_anys _⟩ ⟨.inl rfl, .inl rfl, holdR_gones _⟩ (by repeat (first | exact kr _ | refine kc rfl ?_)) (by repeat (first | exact kr _ | refine kc rfl ?_))
            · skip
              refine br rfl (s_append (id := 1010) rfl rfl rfl (nb hn rfl) elt22 trivial rfl rfl rfl (by simp [chunk]; omega) (by simp [chunk]; omega) (fun b hb => trivial)) fun v32 => ?_
              refine d2_of_d1 ?_
              refine d1_of_d2 ?_
              refine d2_one (i := 0) (by kernel_rfl) rfl (quiet_wg _ [] (guard_none rfl) rfl (nb hn rfl) (fun _ => trivial) (fun _ => q_load rfl rfl (id := 1002) rfl Tryz.underlying76 rfl rfl sees0)) fun _ => ?_
              refine d2_of_d1 ?_
              refine d1_of_d2 ?_
              refine gh_d2 (g_row (t := 32) (id := 1010) rfl rfl) ?_
              refine d2_one (i := 10) (by kernel_rfl) rfl (s_callE (ih2) rfl rfl rfl (nb hn rfl) (.t rfl) rfl (.refl _) ⟨rfl, rfl, trivial⟩ (fun _ => rfl) (fun _ _ => trivial)) fun ⟨x2, hx2⟩ => ?_
              refine d2_of_d1 ?_
              refine d1_of_d2 ?_
              refine d2_done (by kernel_rfl) ?_
              exact aend_join_on hJ2 ⟨x2, hx2⟩ ⟨.inl rfl, holdT_anys _⟩ ⟨.inl rfl, .inl rfl, holdR_gones _⟩ (by repeat (first | exact kr _ | refine kc rfl ?_)) (by repeat (first | exact kr _ | refine kc rfl ?_))
        · skip
          refine br rfl (s_buildSlice rfl rfl rfl (nb hn rfl) Tryz.underlying22 sz3 zr3 rfl rfl rfl (show _ = [.d (.int .i64 0)] from by kernel_rfl) (by kernel_rfl) rfl rfl rfl rfl rfl) fun _ => ?_
          refine d2_of_d1 ?_
          refine d1_of_d2 ?_
          refine d2_all 0 [2] (by kernel_rfl) ⟨?_, ?_, trivial⟩
          · skip
            refine br rfl (quiet_wg _ [] (guard_none rfl) rfl (nb hn rfl) (fun _ => trivial) (fun _ => q_load rfl rfl (id := 1002) rfl Tryz.underlying76 rfl rfl sees0)) fun _ => ?_
            refine d2_of_d1 ?_
            refine d1_of_d2 ?_
            refine d2_one (i := 2) (by kernel_rfl) rfl (s_callE (clone_ok out (by omega)) rfl rfl rfl (nb hn rfl) (.d rfl) rfl (.refl _) trivial (fun _ => rfl) (fun _ _ => trivial)) fun vc => ?_
            refine d2_of_d1 ?_
            refine d1_of_d2 ?_
            refine d2_one (i := 5) (by kernel_rfl) rfl (s_append (id := 1010) rfl rfl rfl (nb hn rfl) elt22 trivial rfl rfl rfl (by simp [chunk]; omega) (by simp [chunk]; omega) (fun b hb => trivial)) fun v32 => ?_
            refine d2_of_d1 ?_
            refine d1_of_d2 ?_
            refine gh_d2 (g_row (t := 32) (id := 1010) rfl rfl) ?_
            refine d2_one (i := 10) (by kernel_rfl) rfl (s_callE (ih2) rfl rfl rfl (nb hn rfl) (.t rfl) rfl (.refl _) ⟨rfl, rfl, trivial⟩ (fun _ => rfl) (fun _ _ => trivial)) fun ⟨x2, hx2⟩ => ?_
            refine d2_of_d1 ?_
            refine d1_of_d2 ?_
            refine d2_done (by kernel_rfl) ?_
            exact aend_join_on hJ2 ⟨x2, hx2⟩ ⟨.inl rfl, holdT_anys _⟩ ⟨.inl rfl, .inl rfl, holdR_gones _⟩ (by repeat (first | exact kr _ | refine kc rfl ?_)) (by repeat (first | exact kr _ | refine kc rfl ?_))
          · skip
            refine br rfl (s_callE (clone_ok out (by omega)) rfl rfl rfl (nb hn rfl) (.d rfl) rfl (.refl _) trivial (fun _ => rfl) (fun _ _ => trivial)) fun vc => ?_
            refine d2_of_d1 ?_
            refine d1_of_d2 ?_
            refine d2_all 0 [5] (by kernel_rfl) ⟨?_, ?_, trivial⟩
            · skip
              refine br rfl (quiet_wg _ [] (guard_none rfl) rfl (nb hn rfl) (fun _ => trivial) (fun _ => q_load rfl rfl (id := 1002) rfl Tryz.underlying76 rfl rfl sees0)) fun _ => ?_
              refine d2_of_d1 ?_
              refine d1_of_d2 ?_
              refine d2_one (i := 5) (by kernel_rfl) rfl (s_append (id := 1010) rfl rfl rfl (nb hn rfl) elt22 trivial rfl rfl rfl (by simp [chunk]; omega) (by simp [chunk]; omega) (fun b hb => trivial)) fun v32 => ?_
              refine d2_of_d1 ?_
              refine d1_of_d2 ?_
              refine gh_d2 (g_row (t := 32) (id := 1010) rfl rfl) ?_
              refine d2_one (i := 10) (by kernel_rfl) rfl (s_callE (ih2) rfl rfl rfl (nb hn rfl) (.t rfl) rfl (.refl _) ⟨rfl, rfl, trivial⟩ (fun _ => rfl) (fun _ _ => trivial)) fun ⟨x2, hx2⟩ => ?_
              refine d2_of_d1 ?_
              refine d1_of_d2 ?_
              refine d2_done (by kernel_rfl) ?_
              exact aend_join_on hJ2 ⟨x2, hx2⟩ ⟨.inl rfl, holdT_anys _⟩ ⟨.inl rfl, .inl rfl, holdR_gones _⟩ (by repeat (first | exact kr _ | refine kc rfl ?_)) (by repeat (first | exact kr _ | refine kc rfl ?_))
            · skip
              refine br rfl (s_append (id := 1010) rfl rfl rfl (nb hn rfl) elt22 trivial rfl rfl rfl (by simp [chunk]; omega) (by simp [chunk]; omega) (fun b hb => trivial)) fun v32 => ?_
              refine d2_of_d1 ?_
              refine d1_of_d2 ?_
              refine d2_one (i := 0) (by kernel_rfl) rfl (quiet_wg _ [] (guard_none rfl) rfl (nb hn rfl) (fun _ => trivial) (fun _ => q_load rfl rfl (id := 1002) rfl Tryz.underlying76 rfl rfl sees0)) fun _ => ?_
              refine d2_of_d1 ?_
              refine d1_of_d2 ?_
              refine gh_d2 (g_row (t := 32) (id := 1010) rfl rfl) ?_
              refine d2_one (i := 10) (by kernel_rfl) rfl (s_callE (ih2) rfl rfl rfl (nb hn rfl) (.t rfl) rfl (.refl _) ⟨rfl, rfl, trivial⟩ (fun _ => rfl) (fun _ _ => trivial)) fun ⟨x2, hx2⟩ => ?_
              refine d2_of_d1 ?_
              refine d1_of_d2 ?_
              refine d2_done (by kernel_rfl) ?_
              exact aend_join_on hJ2 ⟨x2, hx2⟩ ⟨.inl rfl, holdT_anys _⟩ ⟨.inl rfl, .inl rfl, holdR_gones _⟩ (by repeat (first | exact kr _ | refine kc rfl ?_)) (by repeat (first | exact kr _ | refine kc rfl ?_))
      · rintro ⟨x2, hx2⟩
        dsimp only
        refine aend_then ?_
        refine awp_cond rfl (fun hb3 => ?_) (fun hb3 => ?_)
        · skip
          obtain ⟨l2, hl2⟩ := Option.isSome_iff_exists.1 hb3
          have hyes : leaveS r S (k + 1) out f = some l2 := by show leaveN r S k out f = some l2; rw [hle, leaveN_step hlt, hl2]; rfl
          refine awp_seq ?_
          refine awp_region ?_
          refine sq rfl rfl hn rfl (q_assign rfl rfl) ?_
          refine run_nil ?_
          refine aend_then ?_
          refine awp_ret ?_
          refine aend_block_ret ?_
          refine aend_then_ret ?_
          refine aend_then_ret ?_
          refine aend_block_ret ?_
          refine aend_then_ret ?_
          exact ret_E (.inl rfl) ⟨x2, fun l h => by rw [hyes] at h; cases h; exact hx2 _ hl2⟩ ((hands_1 rfl (.tmp rfl)).eq (by rw [hyes]; rfl)) ⟨rfl, rfl, trivial⟩
        · skip
          have hno : leaveS r S k (out ++ [(i : Int)]) (i + 1) = none := by cases h : leaveS r S k (out ++ [(i : Int)]) (i + 1) <;> simp_all
          refine awp_skip ?_
          refine aend_block ?_
          refine aend_then ?_
          refine awp_region ?_
          refine sq rfl rfl hn rfl (q_move rfl rfl) ?_
          refine sq rfl rfl hn rfl (q_add rfl rfl rfl (r := ((i + 1 : Nat) : Int)) (i64w (by omega) rfl)) ?_
          refine sq rfl rfl hn rfl (q_assign rfl rfl) ?_
          refine run_nil ?_
          exact aend_round_on ⟨(i + 1, x2), by simp only; omega, by simp only; omega, by simp only; rw [hle, leaveN_step hlt, hno]; rfl⟩ ⟨.inl rfl, holdT_anys _⟩ ⟨.inl rfl, .inl rfl, holdR_gones _⟩ (by simp only; omega) (by repeat (first | exact kr _ | refine kc rfl ?_)) (by repeat (first | exact kr _ | refine kc rfl ?_))
    · try simp only [decide_eq_true_eq, decide_eq_false_iff_not, Bool.and_eq_true, Bool.or_eq_true, Bool.and_eq_false_iff, Bool.or_eq_false_iff, Bool.not_eq_true', Bool.not_eq_false', beq_iff_eq, bne_iff_ne, ne_eq, beq_eq_false_iff_ne, bne_eq_false_iff_eq, Int.not_lt, Int.not_le] at hb1
      have hno : leaveS r S (k + 1) out f = none := by show leaveN r S k out f = none; rw [hle]; exact leaveN_end (by omega)
      refine awp_exit ?_
      refine aend_then_exit ?_
      refine aend_then_exit ?_
      refine aend_block_exit ?_
      refine aend_then ?_
      refine awp_seq ?_
      refine awp_region ?_
      refine sq rfl rfl hn rfl (q_assign rfl rfl) ?_
      refine run_nil ?_
      refine aend_then ?_
      refine awp_ret ?_
      exact ret_E (.inl rfl) ⟨x1, fun l h => by rw [hno] at h; cases h⟩ ((hands_1 rfl (.tmp rfl)).eq (by rw [hno]; rfl)) ⟨rfl, rfl, trivial⟩
end Go.Proofs.YtnbmmopjkkofoaaGreat
namespace Go.Proofs.YtnbmmopjkkofoaaGreat
open Go.RowKit
set_option maxRecDepth 20000
set_option linter.all false
theorem first_ok (r : Reg) : PureAt Tryz.prog 9 [regD r] (.tup [.int .i64 (firstR r).1, .int .i64 (firstR r).2]) := PureAt.of_eff (ds := [regD r]) (first_eff r)
theorem leave_all (r : Reg) (v : Valid r) (b2 b3 S : Nat) (hS : S ≤ 50) : ∀ k, LeaveOK r b2 b3 S k := by
  intro k
  induction k with
  | zero => intro out f x hf hk; exact leave_step r v b2 b3 S 0 hS (fun k1 h => by omega) out f x hf hk
  | succ k ih => intro out f x hf hk; exact leave_step r v b2 b3 S (k + 1) hS (fun k1 h => by cases h; exact ih) out f x hf hk
def sumR (r : Reg) : Nat := r.entries.length + r.sights.length
def leaveK (r : Reg) (k : Nat) : Option (List Int) := leaveS r (sumR r) k [] 0
def leaveGo (r : Reg) : Nat → Nat → List Int
  | 0, _ => []
  | c + 1, k => match leaveK r k with
    | some l => l
    | none => leaveGo r c (k + 1)
/-- What is left out, and the error. -/
def leaveR (r : Reg) : List Int × Int := if checkE r ≠ 0 then ([], checkE r) else (leaveGo r (sumR r + 1) 0, 0)
theorem goes_empty {r : Reg} (he : r.entries = []) (hs : r.sights = []) : ∀ (k d m : Nat), 10 - d ≤ k → goesB r d 0 m = true
  | 0, d, m, h => goesB_end (by omega)
  | k + 1, d, m, h => by
    by_cases hd : 9 < d
    · exact goesB_end hd
    · have := goesB_day (r := r) (d := d) (m := m) (by omega)
      rw [he] at this
      rw [show (0 : Nat) = ([] : List Ent5).length from rfl, this, goes_empty he hs k (d + 1) m (by omega)]
      simp [seenN, hs]
theorem dropF_all {α : Type} {out : List Int} : ∀ {k : Nat} {l : List α}, (∀ j, k ≤ j → j < k + l.length → (j : Int) ∈ out) → dropF out k l = []
  | _, [], _ => rfl
  | k, x :: l, h => by
    have h1 : (out.any fun n => (k : Int) == n) = true := List.any_eq_true.2 ⟨_, h k (Nat.le_refl _) (by simp), by simp⟩
    rw [dropF, h1]
    exact dropF_all fun j h2 h3 => h j (by omega) (by simp only [List.length_cons]; omega)
theorem leave_full (r : Reg) (S : Nat) (hS : S = sumR r) : ∀ (k f : Nat) (out : List Int), f + k = S → (∀ j : Nat, j < f → (j : Int) ∈ out) → ∃ l, leaveS r S k out f = some l
  | 0, f, out, h, ho => by
    have he : dropF out 0 r.entries = [] := dropF_all fun j _ h2 => ho j (by rw [sumR] at hS; omega)
    have hs : dropF out r.entries.length r.sights = [] := dropF_all fun j _ h2 => ho j (by rw [sumR] at hS; omega)
    refine ⟨out, ?_⟩
    rw [leaveS, goes_empty (r := dropR r out) he hs 10 0 0 (by omega)]
    rfl
  | k + 1, f, out, h, ho => by
    obtain ⟨l, hl⟩ := leave_full r S hS k (f + 1) (out ++ [(f : Int)]) (by omega) fun j hj => by
      by_cases e : j = f
      · subst e; simp
      · exact List.mem_append_left _ (ho j (by omega))
    refine ⟨l, ?_⟩
    show leaveN r S k out f = some l
    rw [leaveN_step (by omega), hl]
    rfl
theorem leaveGo_step {r : Reg} {k : Nat} {l : List Int} (hk : k ≤ sumR r) (h : leaveK r k = some l) : leaveGo r (sumR r + 1 - k) k = l := by
  rw [show sumR r + 1 - k = (sumR r - k) + 1 by omega, leaveGo, h]
theorem leaveGo_next {r : Reg} {k : Nat} (hk : k ≤ sumR r) (h : leaveK r k = none) : leaveGo r (sumR r + 1 - k) k = leaveGo r (sumR r + 1 - (k + 1)) (k + 1) := by
  rw [show sumR r + 1 - k = (sumR r + 1 - (k + 1)) + 1 by omega, leaveGo, h]
theorem leaveK_some (r : Reg) : ∃ l, leaveK r (sumR r) = some l := leave_full r (sumR r) rfl (sumR r) 0 [] (by omega) fun j hj => by omega
/-- A way of the walk: a spot, and the days on which what has happened happened. -/
inductive PathTo (r : Reg) : Nat → Nat → Nat → List Int → Prop
  | start : PathTo r 0 0 0 (List.replicate r.entries.length 0)
  | day {d m ts} (h : PathTo r d r.entries.length m ts) (hd : d ≤ 9) (hs : seenN r d m = true) : PathTo r (d + 1) 0 m ts
  | next {d n m ts s} (h : PathTo r d n m ts) (hd : d ≤ 9) (hs : s ∈ nextL r d n m) : PathTo r s.1 s.2.1 s.2.2 (if s.2.2 = m then ts else ts.set n (d : Int))
def ExplP (r : Reg) (x : List Int × Int) : Prop :=
  (checkE r ≠ 0 ∧ x = ([], checkE r)) ∨ (checkE r = 0 ∧ goesB r 0 0 0 = false ∧ x = ([], 9)) ∨ (checkE r = 0 ∧ goesB r 0 0 0 = true ∧ x.2 = 0 ∧ x.1.length = r.entries.length ∧ ∃ n m, PathTo r 10 n m x.1)
abbrev ES := (Nat × Nat × Nat) × List Int × (D → D → Prop) × Nat × List Nat
def ExplI (r : Reg) (x : ES) : Prop := x.1.1 ≤ 10 ∧ x.1.2.1 ≤ r.entries.length ∧ x.1.2.2 < 2 ^ r.entries.length ∧ x.2.1.length = r.entries.length ∧ Good r x.2.2.1 ∧ goesB r x.1.1 x.1.2.1 x.1.2.2 = true ∧ PathTo r x.1.1 x.1.2.1 x.1.2.2 x.2.1
def ExplX (r : Reg) : Type := {x : List Int × Int // ExplP r x}
theorem rep_int (n : Nat) : (List.replicate n [TV.d (.int .i64 0)]).flatten = (List.replicate n (0 : Int)).map fun n => TV.d (.int .i64 n) := by
  induction n with
  | zero => rfl
  | succ n ih => rw [List.replicate_succ, List.flatten_cons, ih]; rfl
theorem set_int (l : List Int) (i : Nat) (x : Int) : (l.map fun n => TV.d (.int .i64 n)).set (0 + i * 1) (.d (.int .i64 x)) = (l.set i x).map fun n => TV.d (.int .i64 n) := by
  rw [List.map_set, Nat.zero_add, Nat.mul_one]
theorem allD_ints (l : List Int) : allD (l.map fun n => TV.d (.int .i64 n)) = some (l.map intD) := by
  rw [show (l.map fun n => TV.d (.int .i64 n)) = (l.map intD).map .d by simp [intD]]
  exact allD_d _
theorem sz55 : Sz Tryz.prog 55 1 := (by kernel_rfl : (Tryz.prog.info? 55).map (·.size) = some 1)
theorem sz76 : Sz Tryz.prog 76 1 := (by kernel_rfl : (Tryz.prog.info? 76).map (·.size) = some 1)
theorem zr55 : (Tryz.prog.info? 55).map (·.zero) = some (some (.pointer none)) := by kernel_rfl
theorem zr76 : (Tryz.prog.info? 76).map (·.zero) = some (some .nilFunc) := by kernel_rfl
theorem leave_eff (r : Reg) : EffAt Tryz.prog 10 [.d (regD r)] [] (X := Unit) (fun _ => .d (.tup [ints (leaveR r).1, .int .i64 (leaveR r).2])) (fun _ => []) := by
  refine EffAt.of_awp Tryz.func10 rfl (by kernel_rfl) rfl fun Γ hn => ?_
  refine awp_seq ?_
  refine awp_region ?_
  refine stepW (s_box 1 rfl rfl rfl (nb hn rfl) rfl rfl) fun b1 => ?_
  refine sq rfl rfl hn rfl (q_assign rfl rfl) ?_
  refine sq rfl rfl hn rfl (q_assign rfl rfl) ?_
  refine run_nil ?_
  refine aend_then ?_
  refine awp_scope ?_
  refine awp_seq ?_
  refine awp_seq ?_
  refine awp_region ?_
  refine sq rfl rfl hn rfl (q_loadAd rfl rfl (id := 1) rfl Tryz.underlying36 rfl sz36 rfl rfl sees0) ?_
  refine stepW (s_call [] (fun _ => CheckRegister_ok _) rfl (guard_none rfl) rfl (nb hn rfl) (fun _ => trivial) rfl rfl (.refl _)) fun _ => ?_
  refine sq rfl rfl hn rfl (q_assign rfl rfl) ?_
  refine run_nil ?_
  refine aend_then ?_
  refine awp_seq ?_
  refine awp_region ?_
  refine sq rfl rfl hn rfl (q_move rfl rfl) ?_
  refine sq rfl rfl hn rfl (q_neq rfl rfl rfl) ?_
  refine run_nil ?_
  refine aend_then ?_
  refine awp_cond rfl (fun hb0 => ?_) (fun hb0 => ?_)
  · simp only [bne_iff_ne, ne_eq] at hb0
    have hc0 : checkE r ≠ 0 := hb0
    refine awp_seq ?_
    refine awp_region ?_
    refine sq rfl rfl hn rfl (q_move rfl rfl) ?_
    refine sq rfl rfl hn rfl (q_assign rfl rfl) ?_
    refine sq rfl rfl hn rfl (q_assign rfl rfl) ?_
    refine run_nil ?_
    refine aend_then ?_
    refine awp_ret ?_
    refine aend_then_ret ?_
    refine aend_scope ?_ (fun _ e => by cases e)
    exact ret_E (.inl rfl) () ((hands_2d rfl (.tmp rfl) (.tmp rfl)).le (by rw [leaveR, if_pos hc0]; exact .tup (.cons (.nil 1) (.refl _)))) trivial
  · skip
    have hc0 : checkE r = 0 := by simpa using hb0
    have v := valid_of hc0
    have he6 := v.e6
    have hg4 := v.g4
    have hS : sumR r ≤ 50 := by unfold sumR; omega
    refine awp_skip ?_
    refine aend_then ?_
    refine awp_seq ?_
    refine awp_region ?_
    refine sq rfl rfl hn rfl (q_fieldAddr rfl rfl Tryz.underlying36 rfl sz33) ?_
    refine sq rfl rfl hn rfl (q_load rfl rfl (id := 1) rfl Tryz.underlying33 rfl rfl sees0) ?_
    refine sq rfl rfl hn rfl (q_len rfl rfl Tryz.underlying33) ?_
    refine sq rfl rfl hn rfl (q_fieldAddr rfl rfl Tryz.underlying36 rfl sz34) ?_
    refine sq rfl rfl hn rfl (q_load rfl rfl (id := 1) rfl Tryz.underlying34 rfl rfl sees0) ?_
    refine sq rfl rfl hn rfl (q_len rfl rfl Tryz.underlying34) ?_
    refine sq rfl rfl hn rfl (q_add rfl rfl rfl (r := (sumR r : Nat)) (i64w (by simp only [List.length_map]; omega) (by simp only [List.length_map, sumR]; omega))) ?_
    refine stepW (s_alloc 5 rfl rfl rfl (nb hn rfl) zr3 rfl rfl) fun b5 => ?_
    refine stepW (s_store1 rfl rfl rfl rfl rfl rfl (id := 5) rfl sz3 (Nat.le_of_ble_eq_true rfl) rfl trivial) fun _ => ?_
    refine run_nil ?_
    refine aend_then ?_
    refine awp_seq ?_
    refine awp_region ?_
    refine stepW (s_alloc 1003 rfl rfl rfl (nb hn rfl) zr22 rfl rfl) fun b6 => ?_
    refine run_nil ?_
    refine aend_then ?_
    refine awp_seq ?_
    refine awp_region ?_
    refine stepW (s_alloc 1002 rfl rfl rfl (nb hn rfl) zr76 rfl rfl) fun b7 => ?_
    refine run_nil ?_
    refine aend_then ?_
    refine awp_seq ?_
    refine gh_awp (g_freeze (t := 1) 1 rfl (nb hn rfl) rfl rfl trivial) ?_
    refine gh_awp (g_freeze (t := 5) 5 rfl (nb hn rfl) rfl rfl trivial) ?_
    refine awp_region ?_
    refine sq rfl rfl hn rfl (q_makeFunc rfl rfl rfl) ?_
    refine stepW (s_store1 rfl rfl rfl rfl rfl rfl (id := 1002) rfl sz76 (Nat.le_of_ble_eq_true rfl) rfl trivial) fun _ => ?_
    refine run_nil ?_
    refine aend_then ?_
    refine awp_seq ?_
    refine awp_label ?_
    refine aend_then ?_
    refine awp_seq ?_
    refine awp_seq ?_
    refine awp_region ?_
    refine sq rfl rfl hn rfl (q_loadp rfl rfl Tryz.underlying3 rfl seesF0) ?_
    refine sq rfl rfl hn rfl (q_add rfl rfl rfl (r := ((sumR r + 1 : Nat) : Int)) (i64w (by omega) rfl)) ?_
    refine sq rfl rfl hn rfl (q_move rfl rfl) ?_
    refine run_nil ?_
    refine aend_then ?_
    refine awp_block ?_
    refine awp_loop_on (ι := {x : Nat × D // x.1 ≤ sumR r + 1 ∧ leaveGo r (sumR r + 1) 0 = leaveGo r (sumR r + 1 - x.1) x.1 ∧ (x.1 = sumR r + 1 → leaveK r (sumR r) = none)}) (fun x => (24, true, .d (.int .i64 (x.1.1 : Nat))) :: anys [25, 26, 8, 27, 28, 29, 30]) (fun x => [(1002, .box b7 76 [.fn (.func 32) [] (leaveCa r b7 b6 (sumR r))]), (1003, .box b6 22 [.d x.1.2])]) (fun x => sumR r + 1 - x.1.1) ⟨(0, .nil), by simp, rfl, fun h => by simp at h⟩ ⟨.inl rfl, holdT_anys _⟩ ⟨.inl rfl, .inl rfl, trivial⟩ ?_
    rintro ⟨⟨k, x1⟩, hk, hgo, hlast⟩
    dsimp only
    dsimp only at hk hgo hlast
    refine awp_seq ?_
    refine awp_region ?_
    refine sq rfl rfl hn rfl (q_lss rfl rfl rfl) ?_
    refine run_nil ?_
    refine aend_then ?_
    refine awp_seq ?_
    refine awp_cond rfl (fun hb1 => ?_) (fun hb1 => ?_)
    · try simp only [decide_eq_true_eq, decide_eq_false_iff_not, Bool.and_eq_true, Bool.or_eq_true, Bool.and_eq_false_iff, Bool.or_eq_false_iff, Bool.not_eq_true', Bool.not_eq_false', beq_iff_eq, bne_iff_ne, ne_eq, beq_eq_false_iff_ne, bne_eq_false_iff_eq, Int.not_lt, Int.not_le] at hb1
      have hlt : k ≤ sumR r := by omega
      refine awp_skip ?_
      refine aend_then ?_
      refine awp_seq ?_
      refine awp_block ?_
      refine awp_seq ?_
      refine awp_region ?_
      refine sq rfl rfl hn rfl (q_move rfl rfl) ?_
      refine sq rfl rfl hn rfl (q_assign rfl rfl) ?_
      refine run_nil ?_
      refine aend_then ?_
      refine awp_seq ?_
      refine awp_region ?_
      refine sq rfl rfl hn rfl (q_load rfl rfl (id := 1002) rfl Tryz.underlying76 rfl rfl sees0) ?_
      refine sq rfl rfl hn rfl (q_move rfl rfl) ?_
      refine stepW (s_callE (leave_all r v b7 b6 (sumR r) hS k [] 0 x1 (by omega) (by simp; omega)) rfl rfl rfl (nb hn rfl) (.t rfl) rfl (by first | exact .refl _ | (repeat (first | exact .refl _ | exact .d (.nil _) | exact .nil _ | refine .cons ?_ ?_ | refine .d ?_ | refine .agg ?_ | refine .tup ?_))) ⟨rfl, rfl, trivial⟩ (fun _ => rfl) (fun _ _ => trivial)) fun ⟨x2, hx2⟩ => ?_
      refine run_nil ?_
      refine aend_then ?_
      refine awp_cond rfl (fun hb2 => ?_) (fun hb2 => ?_)
      · skip
        obtain ⟨l2, hl2⟩ := Option.isSome_iff_exists.1 hb2
        obtain rfl := hx2 _ hl2
        have hyes : leaveR r = (l2, 0) := by rw [leaveR, if_neg (by simp [hc0]), hgo, leaveGo_step hlt hl2]
        refine awp_exit ?_
        refine aend_block_exit_ne rfl ?_
        refine aend_then_exit ?_
        refine aend_then_exit ?_
        refine aend_block_exit ?_
        refine aend_then ?_
        refine awp_seq ?_
        refine awp_region ?_
        refine sq rfl rfl hn rfl (q_load rfl rfl (id := 1003) rfl Tryz.underlying22 rfl rfl sees0) ?_
        refine sq rfl rfl hn rfl (q_assign rfl rfl) ?_
        refine sq rfl rfl hn rfl (q_assign rfl rfl) ?_
        refine run_nil ?_
        refine aend_then ?_
        refine awp_ret ?_
        refine aend_scope ?_ (fun _ e => by cases e)
        exact ret_E (.inl rfl) () ((hands_2d rfl (.tmp rfl) (.tmp rfl)).eq (by rw [hyes])) trivial
      · skip
        have hno : leaveK r k = none := by cases h : leaveK r k; rfl; simp [leaveK] at h hb2; rw [h] at hb2; cases hb2
        refine awp_skip ?_
        refine aend_block ?_
        refine aend_then ?_
        refine awp_region ?_
        refine sq rfl rfl hn rfl (q_add rfl rfl rfl (r := ((k + 1 : Nat) : Int)) (i64w (by omega) (by omega))) ?_
        refine sq rfl rfl hn rfl (q_move rfl rfl) ?_
        refine run_nil ?_
        exact aend_round_on ⟨(k + 1, x2), by simp only; omega, by simp only; rw [hgo]; exact leaveGo_next (by omega) hno, fun h => by simp only at h; rw [show sumR r = k by omega]; exact hno⟩ ⟨.inl rfl, holdT_anys _⟩ ⟨.inl rfl, .inl rfl, trivial⟩ (by simp only; omega) (by repeat (first | exact kr _ | refine kc rfl ?_)) (by repeat (first | exact kr _ | refine kc rfl ?_))
    · try simp only [decide_eq_true_eq, decide_eq_false_iff_not, Bool.and_eq_true, Bool.or_eq_true, Bool.and_eq_false_iff, Bool.or_eq_false_iff, Bool.not_eq_true', Bool.not_eq_false', beq_iff_eq, bne_iff_ne, ne_eq, beq_eq_false_iff_ne, bne_eq_false_iff_eq, Int.not_lt, Int.not_le] at hb1
      exact absurd (leaveK_some r) (by rw [hlast (by omega)]; rintro ⟨l, hl⟩; cases hl)
theorem leave_ok (r : Reg) : PureAt Tryz.prog 10 [regD r] (.tup [ints (leaveR r).1, .int .i64 (leaveR r).2]) := PureAt.of_eff (ds := [regD r]) (leave_eff r)
theorem nextXs_len43 (r : Reg) (d n m : Nat) : ∀ x ∈ nextXs r d n m, x.length = (#[43] : Array Tmp).size := fun x hx => by
  obtain ⟨s, _, rfl⟩ := List.mem_map.1 hx
  rfl
theorem explain_ok (r : Reg) : EffAt Tryz.prog 7 [.d (regD r)] [] (X := ExplX r) (fun x => .d (.tup [ints x.1.1, .int .i64 x.1.2])) (fun _ => []) := by
  refine EffAt.of_awpM Tryz.func7 rfl (by kernel_rfl) rfl fun Γ hn => ?_
  refine awp_seq ?_
  refine awp_region ?_
  refine stepW (s_box 1 rfl rfl rfl (nb hn rfl) rfl rfl) fun b1 => ?_
  refine sq rfl rfl hn rfl (q_assign rfl rfl) ?_
  refine sq rfl rfl hn rfl (q_assign rfl rfl) ?_
  refine run_nil ?_
  refine aend_then ?_
  refine awp_seq ?_
  refine awp_seq ?_
  refine awp_region ?_
  refine sq rfl rfl hn rfl (q_loadAd rfl rfl (id := 1) rfl Tryz.underlying36 rfl sz36 rfl rfl sees0) ?_
  refine stepW (s_call [] (fun _ => CheckRegister_ok _) rfl (guard_none rfl) rfl (nb hn rfl) (fun _ => trivial) rfl rfl (.refl _)) fun _ => ?_
  refine sq rfl rfl hn rfl (q_assign rfl rfl) ?_
  refine run_nil ?_
  refine aend_then ?_
  refine awp_seq ?_
  refine awp_region ?_
  refine sq rfl rfl hn rfl (q_move rfl rfl) ?_
  refine sq rfl rfl hn rfl (q_neq rfl rfl rfl) ?_
  refine run_nil ?_
  refine aend_then ?_
  refine awp_cond rfl (fun hb0 => ?_) (fun hb0 => ?_)
  · simp only [bne_iff_ne, ne_eq] at hb0
    have hc0 : checkE r ≠ 0 := hb0
    refine awp_seq ?_
    refine awp_region ?_
    refine sq rfl rfl hn rfl (q_move rfl rfl) ?_
    refine sq rfl rfl hn rfl (q_assign rfl rfl) ?_
    refine sq rfl rfl hn rfl (q_assign rfl rfl) ?_
    refine run_nil ?_
    refine aend_then ?_
    refine awp_ret ?_
    refine aend_then_ret ?_
    exact ret_M (.inl rfl) ⟨([], checkE r), .inl ⟨hc0, rfl⟩⟩ (.inl rfl) ((hands_2d rfl (.tmp rfl) (.tmp rfl)).le (.tup (.cons (.nil 1) (.refl _)))) trivial rfl
  · skip
    have hc0 : checkE r = 0 := by simpa using hb0
    have v := valid_of hc0
    have he6 := v.e6
    refine awp_skip ?_
    refine aend_then ?_
    refine awp_seq ?_
    refine awp_region ?_
    refine sq rfl rfl hn rfl (q_loadAd rfl rfl (id := 1) rfl Tryz.underlying36 rfl sz36 rfl rfl sees0) ?_
    refine stepW (s_callE (work_ok r) rfl rfl rfl (nb hn rfl) (.d rfl) rfl (.refl _) trivial (fun _ => rfl) (fun _ _ => trivial)) fun bw => ?_
    refine stepW (s_alloc 5 rfl rfl rfl (nb hn rfl) zr55 rfl rfl) fun b5 => ?_
    refine stepW (s_store1 rfl rfl rfl rfl rfl rfl (id := 5) rfl sz55 (Nat.le_of_ble_eq_true rfl) rfl trivial) fun _ => ?_
    refine run_nil ?_
    refine aend_then ?_
    refine awp_seq ?_
    refine awp_seq ?_
    refine gh_awp (g_freeze (t := 5) 5 rfl (nb hn rfl) rfl rfl trivial) ?_
    refine gh_awp (g_freeze (t := 1) 1 rfl (nb hn rfl) rfl rfl trivial) ?_
    refine awp_region ?_
    refine sq rfl rfl hn rfl (q_loadp rfl rfl Tryz.underlying55 rfl seesF0) ?_
    refine sq rfl rfl hn rfl (q_buildd rfl bt61 rfl rfl rfl rfl rfl) ?_
    refine stepW (s_callE (goes_ok r v bw 0 0 0 _ (by omega) (Nat.zero_le _) (Nat.two_pow_pos _) (good_none _)) rfl rfl rfl (nb hn rfl) (.d rfl) rfl (.refl _) ⟨rfl, trivial⟩ (fun _ => rfl) (fun _ _ => trivial)) fun ⟨M0, hM0⟩ => ?_
    refine sq rfl rfl hn rfl (q_not rfl rfl) ?_
    refine run_nil ?_
    refine aend_then ?_
    refine awp_cond rfl (fun hb1 => ?_) (fun hb1 => ?_)
    · skip
      have hg0 : goesB r 0 0 0 = false := by simpa using hb1
      refine awp_seq ?_
      refine awp_region ?_
      refine sq rfl rfl hn rfl (q_assign rfl rfl) ?_
      refine sq rfl rfl hn rfl (q_assign rfl rfl) ?_
      refine run_nil ?_
      refine aend_then ?_
      refine awp_ret ?_
      refine aend_then_ret ?_
      exact ret_M (.inl rfl) ⟨([], 9), .inr (.inl ⟨hc0, hg0, rfl⟩)⟩ (.inl rfl) ((hands_2d rfl (.tmp rfl) (.tmp rfl)).le (.tup (.cons (.nil 1) (.refl _)))) trivial rfl
    · skip
      have hg0 : goesB r 0 0 0 = true := by simpa using hb1
      refine awp_skip ?_
      refine aend_then ?_
      refine awp_seq ?_
      refine awp_region ?_
      refine sq rfl rfl hn rfl (q_fieldAddrp rfl rfl Tryz.underlying36 rfl sz33 rfl) ?_
      refine sq rfl rfl hn rfl (q_loadp rfl rfl Tryz.underlying33 rfl seesF0) ?_
      refine sq rfl rfl hn rfl (q_len rfl rfl Tryz.underlying33) ?_
      refine stepW (s_makeSlice (n := r.entries.length) 23 rfl rfl rfl (nb hn rfl) Tryz.underlying22 (show _ = some (some (.int .i64 0), 1, 8) from by kernel_rfl) rfl rfl rfl (by decide) rfl rfl (by simp) (by simp) (by omega) (by omega) (by omega)) fun b23 => ?_
      refine stepW (s_alloc 6 rfl rfl rfl (nb hn rfl) zr22 rfl rfl) fun b6 => ?_
      refine stepW (s_store1 rfl rfl rfl rfl rfl rfl (id := 6) rfl sz22 (Nat.le_of_ble_eq_true rfl) rfl trivial) fun _ => ?_
      refine run_nil ?_
      refine aend_then ?_
      refine awp_seq ?_
      refine awp_seq ?_
      refine awp_region ?_
      refine sq rfl rfl hn rfl (q_buildd rfl bt61 rfl rfl rfl rfl rfl) ?_
      refine stepW (s_alloc 7 rfl rfl rfl (nb hn rfl) zr61 rfl rfl) fun b7 => ?_
      refine stepW (s_store rfl rfl rfl rfl rfl rfl (id := 7) rfl sz61 rfl (Nat.le_of_ble_eq_true rfl) rfl trivial) fun _ => ?_
      refine run_nil ?_
      refine aend_then ?_
      refine awp_block ?_
      refine gh_awp (gh_marks rfl rfl) ?_
      refine awp_loop_onM (ι := {x : ES // ExplI r x}) (fun x => (7, true, .val (.pointer (some ⟨x.1.2.2.2.1, 0, none⟩))) :: anys [25, 26, 27, 28, 29, 30, 31, 32, 33, 35, 36, 37, 34, 38, 39, 40, 41, 42, 60]) (fun x => [(7, .box x.1.2.2.2.1 61 [.d (.int .i64 (x.1.1.1 : Nat)), .d (.int .i64 (x.1.1.2.1 : Nat)), .d (.int .u64 (x.1.1.2.2 : Nat))]), (6, .box b6 22 [.val (.slice (some ⟨b23, 0, none⟩) r.entries.length r.entries.length)]), (23, .box b23 3 (x.1.2.1.map fun n => TV.d (.int .i64 n))), (1000, mapRes KS bw x.1.2.2.1), (9000, marksRes x.1.2.2.2.2)]) (fun x => x.1.2.2.2.2) (fun x => muS r x.1.1.1 x.1.1.2.1) ⟨((0, 0, 0), List.replicate r.entries.length 0, M0, b7, []), Nat.zero_le _, Nat.zero_le _, Nat.two_pow_pos _, by simp, hM0, hg0, .start⟩ ⟨.inl rfl, holdT_anys _⟩ ⟨.inl rfl, .inl rfl, .inl (congrArg (fun z => some (Res.box b23 3 z)) (rep_int _)), .inl rfl, .inl rfl, trivial⟩ rfl ?_
      rintro ⟨⟨⟨d, n, m⟩, ts, M, b7, dm⟩, hI⟩
      dsimp only
      obtain ⟨hd, hn6, hm, hts, hM, hg, hpt⟩ := hI
      dsimp only at hd hn6 hm hts hM hg hpt
      have hm64 := lt64 he6 hm
      refine awp_seq ?_
      refine awp_seq ?_
      refine awp_region ?_
      refine sq rfl rfl hn rfl (q_fieldAddr rfl rfl Tryz.underlying61 rfl sz3) ?_
      refine sq rfl rfl hn rfl (q_load rfl rfl (id := 7) rfl Tryz.underlying3 rfl rfl sees0) ?_
      refine sq rfl rfl hn rfl (q_leq rfl rfl rfl) ?_
      refine run_nil ?_
      refine aend_then ?_
      refine awp_cond rfl (fun hb2 => ?_) (fun hb2 => ?_)
      · try simp only [decide_eq_true_eq, decide_eq_false_iff_not, Bool.and_eq_true, Bool.or_eq_true, Bool.and_eq_false_iff, Bool.or_eq_false_iff, Bool.not_eq_true', Bool.not_eq_false', beq_iff_eq, bne_iff_ne, ne_eq, beq_eq_false_iff_ne, bne_eq_false_iff_eq, Int.not_lt, Int.not_le] at hb2
        have hd9 : d ≤ 9 := by omega
        refine awp_skip ?_
        refine aend_then ?_
        refine awp_seq ?_
        refine awp_block ?_
        refine awp_seq ?_
        refine awp_seq ?_
        refine awp_region ?_
        refine sq rfl rfl hn rfl (q_fieldAddr rfl rfl Tryz.underlying61 rfl sz3) ?_
        refine sq rfl rfl hn rfl (q_load rfl rfl (id := 7) rfl Tryz.underlying3 rfl rfl sees0) ?_
        refine sq rfl rfl hn rfl (q_fieldAddrp rfl rfl Tryz.underlying36 rfl sz33 rfl) ?_
        refine sq rfl rfl hn rfl (q_loadp rfl rfl Tryz.underlying33 rfl seesF0) ?_
        refine sq rfl rfl hn rfl (q_len rfl rfl Tryz.underlying33) ?_
        refine sq rfl rfl hn rfl (q_eql rfl rfl rfl) ?_
        refine run_nil ?_
        refine aend_then ?_
        refine awp_cond rfl (fun hb3 => ?_) (fun hb3 => ?_)
        · try simp only [decide_eq_true_eq, decide_eq_false_iff_not, Bool.and_eq_true, Bool.or_eq_true, Bool.and_eq_false_iff, Bool.or_eq_false_iff, Bool.not_eq_true', Bool.not_eq_false', beq_iff_eq, bne_iff_ne, ne_eq, beq_eq_false_iff_ne, bne_eq_false_iff_eq, Int.not_lt, Int.not_le] at hb3
          have hnl : n = r.entries.length := by simp only [List.length_map] at hb3; omega
          subst hnl
          have hgd := goesB_day (r := r) (d := d) (m := m) hd9
          rw [hg] at hgd
          have hgs : seenN r d m = true ∧ goesB r (d + 1) 0 m = true := by simpa using hgd.symm
          refine awp_seq ?_
          refine awp_region ?_
          refine sq rfl rfl hn rfl (q_loadp rfl rfl Tryz.underlying55 rfl seesF0) ?_
          refine sq rfl rfl hn rfl (q_loadAd rfl rfl (id := 7) rfl Tryz.underlying61 rfl sz61 rfl rfl sees0) ?_
          refine stepW (s_call [] (fun _ => closed_ok r bw d _ m v hd9 hm64) rfl (guard_none rfl) rfl (nb hn rfl) (fun _ => trivial) rfl rfl (.refl _)) fun _ => ?_
          refine sq rfl rfl hn rfl (q_move rfl rfl) ?_
          refine sq rfl rfl hn rfl (q_extractd rfl rfl rfl) ?_
          refine sq rfl rfl hn rfl (q_extractd rfl rfl rfl) ?_
          refine stepW (s_store rfl rfl rfl rfl rfl rfl (id := 7) rfl sz61 rfl (Nat.le_of_ble_eq_true rfl) rfl trivial) fun _ => ?_
          refine run_nil ?_
          refine aend_then ?_
          refine awp_exit ?_
          refine aend_then_exit ?_
          refine aend_block_exit ?_
          refine aend_then ?_
          refine awp_seq ?_
          refine awp_region ?_
          refine sq rfl rfl hn rfl (q_loadAd rfl rfl (id := 7) rfl Tryz.underlying61 rfl sz61 rfl rfl sees0) ?_
          refine run_nil ?_
          refine aend_then ?_
          refine awp_region ?_
          refine stepW (s_alloc 7 rfl rfl rfl (nb hn rfl) zr61 rfl rfl) fun b7 => ?_
          refine stepW (s_store rfl rfl rfl rfl rfl rfl (id := 7) rfl sz61 rfl (Nat.le_of_ble_eq_true rfl) rfl trivial) fun _ => ?_
          refine run_nil ?_
          exact aend_round_onM ⟨((d + 1, 0, m), ts, M, b7, dm), by simp only; omega, Nat.zero_le _, hm, hts, hM, hgs.2, .day hpt hd9 hgs.1⟩ ⟨.inl rfl, holdT_anys _⟩ ⟨.inl rfl, .inl rfl, .inl rfl, .inl rfl, .inl rfl, trivial⟩ (muS_day hd9) (by repeat (first | exact kr _ | refine kc rfl ?_)) (by repeat (first | exact kr _ | refine kc rfl ?_)) rfl
        · try simp only [decide_eq_true_eq, decide_eq_false_iff_not, Bool.and_eq_true, Bool.or_eq_true, Bool.and_eq_false_iff, Bool.or_eq_false_iff, Bool.not_eq_true', Bool.not_eq_false', beq_iff_eq, bne_iff_ne, ne_eq, beq_eq_false_iff_ne, bne_eq_false_iff_eq, Int.not_lt, Int.not_le] at hb3
          have hnl : n < r.entries.length := by simp only [List.length_map] at hb3; omega
          obtain ⟨e, he⟩ := ex_get hnl
          refine awp_skip ?_
          refine aend_then ?_
          refine awp_seq ?_
          refine awp_region ?_
          refine sq rfl rfl hn rfl (q_loadpA rfl rfl Tryz.underlying36 rfl sz36 rfl rfl seesF0) ?_
          refine sq rfl rfl hn rfl (q_loadAd rfl rfl (id := 7) rfl Tryz.underlying61 rfl sz61 rfl rfl sees0) ?_
          refine stepW (s_call [] (fun _ => next_ok _ _ _ _) rfl (guard_none rfl) rfl (nb hn rfl) (fun _ => trivial) rfl rfl (.refl _)) fun _ => ?_
          refine run_nil ?_
          refine aend_then ?_
          refine awp_block ?_
          refine awp_rangeFunc (ι := {x : (Nat × Nat × Nat) × List Int × (D → D → Prop) // Good r x.2.2}) (fun x => [(7, .box b7 61 [.d (.int .i64 (x.1.1.1 : Nat)), .d (.int .i64 (x.1.1.2.1 : Nat)), .d (.int .u64 (x.1.1.2.2 : Nat))]), (6, .box b6 22 [.val (.slice (some ⟨b23, 0, none⟩) r.entries.length r.entries.length)]), (23, .box b23 3 (x.1.2.1.map fun n => TV.d (.int .i64 n))), (1000, mapRes KS bw x.1.2.2)]) (fun j x => x.1.1 = (d, n, m) ∧ x.1.2.1 = ts ∧ ∀ s ∈ (nextL r d n m).take j, goesB r s.1 s.2.1 s.2.2 = false) ((fun c x => c = .exit 2 ∧ x.1.1 ∈ nextL r d n m ∧ goesB r x.1.1.1 x.1.1.2.1 x.1.1.2.2 = true ∧ x.1.2.1 = if x.1.1.2.2 = m then ts else ts.set n (d : Int))) ⟨((d, n, m), ts, M), hM⟩ ((next1_ok r d n m e he v hd9 (by omega) hm64)) rfl (nextXs_len43 r d n m) (by rw [hn]; rfl) (.inr rfl) ⟨rfl, rfl, rfl, rfl, trivial⟩ ⟨rfl, rfl, fun s hs => (by cases hs)⟩ (fun _ => rfl) (fun _ => rfl) rfl rfl ?_ ?_ ?_
          · rintro l0 r0 Γr j0 x0 ⟨⟨s0, ts1, M1⟩, hM1⟩ hnr hrd hx0 hA0
            dsimp only at hA0 hM1
            obtain ⟨rfl, rfl, hno⟩ := hA0
            obtain ⟨s, hs, rfl⟩ := nextXs_get hx0
            have hsin := List.mem_of_getElem? hs
            have hsm := nextL_mem hsin
            obtain ⟨s1, s2, s3⟩ := s
            obtain rfl : d = s1 := hsm.1.symm
            obtain rfl : n + 1 = s2 := hsm.2.1.symm
            have hs3 := hsm.2.2.1
            dsimp only at hs3
            have hs3b : s3 < 2 ^ r.entries.length := next_lt hm hnl hs3
            refine awi_region ?_
            refine stepWI ((s_alloc 8 rfl rfl rfl (nb (hnr.trans hn) rfl) zr61 rfl rfl).i rfl) fun b8 => ?_
            refine stepWI ((s_store rfl rfl rfl rfl rfl rfl (id := 8) rfl sz61 rfl (Nat.le_of_ble_eq_true rfl) rfl trivial).i rfl) fun _ => ?_
            refine run_nilI ?_
            refine aend_begin hrd rfl ?_
            refine awi_block ?_
            refine awi_seq ?_
            refine awi_seq ?_
            refine awi_region ?_
            refine sqI rfl rfl (hnr.trans hn) rfl (q_loadp rfl rfl Tryz.underlying55 rfl seesF0) rfl ?_
            refine sqI rfl rfl (hnr.trans hn) rfl (q_loadAd rfl rfl (id := 8) rfl Tryz.underlying61 rfl sz61 rfl rfl sees0) rfl ?_
            refine stepWI ((s_callE (goes_ok r v bw d (n + 1) s3 M1 hd (by omega) hs3b hM1) rfl rfl rfl (nb (hnr.trans hn) rfl) (.d rfl) rfl (.refl _) ⟨rfl, trivial⟩ (fun _ => rfl) (fun _ _ => trivial)).i rfl) fun ⟨M3, hM3⟩ => ?_
            refine sqI rfl rfl (hnr.trans hn) rfl (q_not rfl rfl) rfl ?_
            refine run_nilI ?_
            refine aend_thenI ?_
            refine awi_cond rfl (fun hb4 => ?_) (fun hb4 => ?_)
            · skip
              have hgf : goesB r d (n + 1) s3 = false := by simpa using hb4
              refine awi_exit ?_
              refine aend_then_exit ?_
              refine aend_block_exit ?_
              exact aend_round_go ⟨((d, n, m), ts1, M3), hM3⟩ ⟨rfl, rfl, fun s hs2 => by rw [List.take_add_one, hs] at hs2; rcases List.mem_append.1 hs2 with h | h; exact hno s h; simp at h; subst h; exact hgf⟩ ⟨rfl, rfl, rfl, rfl, rfl, trivial⟩
            · skip
              have hgt : goesB r d (n + 1) s3 = true := by simpa using hb4
              refine awi_skip ?_
              refine aend_thenI ?_
              refine awi_seq ?_
              refine awi_seq ?_
              refine awi_region ?_
              refine sqI rfl rfl (hnr.trans hn) rfl (q_fieldAddr rfl rfl Tryz.underlying61 rfl sz59) rfl ?_
              refine sqI rfl rfl (hnr.trans hn) rfl (q_load rfl rfl (id := 8) rfl Tryz.underlying59 rfl rfl sees0) rfl ?_
              refine sqI rfl rfl (hnr.trans hn) rfl (q_fieldAddr rfl rfl Tryz.underlying61 rfl sz59) rfl ?_
              refine sqI rfl rfl (hnr.trans hn) rfl (q_load rfl rfl (id := 7) rfl Tryz.underlying59 rfl rfl sees0) rfl ?_
              refine sqI rfl rfl (hnr.trans hn) rfl (q_neq rfl rfl rfl) rfl ?_
              refine run_nilI ?_
              refine aend_thenI ?_
              refine awi_cond rfl (fun hb5 => ?_) (fun hb5 => ?_)
              · skip
                have hne : s3 ≠ m := by simp at hb5; omega
                refine awi_region ?_
                refine sqI rfl rfl (hnr.trans hn) rfl (q_load rfl rfl (id := 6) rfl Tryz.underlying22 rfl rfl sees0) rfl ?_
                refine sqI rfl rfl (hnr.trans hn) rfl (q_fieldAddr rfl rfl Tryz.underlying61 rfl sz3) rfl ?_
                refine sqI rfl rfl (hnr.trans hn) rfl (q_load rfl rfl (id := 7) rfl Tryz.underlying3 rfl rfl sees0) rfl ?_
                refine sqI rfl rfl (hnr.trans hn) rfl (q_fieldAddr rfl rfl Tryz.underlying61 rfl sz3) rfl ?_
                refine sqI rfl rfl (hnr.trans hn) rfl (q_load rfl rfl (id := 7) rfl Tryz.underlying3 rfl rfl sees0) rfl ?_
                refine sqI rfl rfl (hnr.trans hn) rfl (q_indexV (i := n) rfl rfl rfl Tryz.underlying22 sz3 rfl (by omega)) rfl ?_
                refine stepWI ((s_store1 rfl rfl rfl rfl rfl rfl (id := 23) rfl sz3 (by simp; omega) (set_int _ _ _) trivial).i rfl) fun _ => ?_
                refine run_nilI ?_
                refine aend_thenI ?_
                refine awi_seq ?_
                refine awi_region ?_
                refine sqI rfl rfl (hnr.trans hn) rfl (q_loadAd rfl rfl (id := 8) rfl Tryz.underlying61 rfl sz61 rfl rfl sees0) rfl ?_
                refine stepWI ((s_store rfl rfl rfl rfl rfl rfl (id := 7) rfl sz61 rfl (Nat.le_of_ble_eq_true rfl) rfl trivial).i rfl) fun _ => ?_
                refine run_nilI ?_
                refine aend_thenI ?_
                refine awi_exit ?_
                refine aend_block_exit_ne rfl ?_
                exact aend_round_exit ⟨((d, n + 1, s3), ts1.set n (d : Int), M3), hM3⟩ ⟨rfl, hsin, hgt, by rw [if_neg hne]⟩ ⟨rfl, rfl, rfl, rfl, rfl, trivial⟩
              · skip
                have heq : s3 = m := by simp at hb5; omega
                refine awi_skip ?_
                refine aend_thenI ?_
                refine awi_seq ?_
                refine awi_region ?_
                refine sqI rfl rfl (hnr.trans hn) rfl (q_loadAd rfl rfl (id := 8) rfl Tryz.underlying61 rfl sz61 rfl rfl sees0) rfl ?_
                refine stepWI ((s_store rfl rfl rfl rfl rfl rfl (id := 7) rfl sz61 rfl (Nat.le_of_ble_eq_true rfl) rfl trivial).i rfl) fun _ => ?_
                refine run_nilI ?_
                refine aend_thenI ?_
                refine awi_exit ?_
                refine aend_block_exit_ne rfl ?_
                exact aend_round_exit ⟨((d, n + 1, s3), ts1, M3), hM3⟩ ⟨rfl, hsin, hgt, by rw [if_pos heq]⟩ ⟨rfl, rfl, rfl, rfl, rfl, trivial⟩
          · rintro ⟨⟨s0, ts1, M1⟩, hM1⟩ D0 hA0
            dsimp only at hA0
            obtain ⟨_, _, hno⟩ := hA0
            rw [show (nextXs r d n m).length = (nextL r d n m).length by simp [nextXs], List.take_length] at hno
            rw [goesB_next hd9 hnl] at hg
            obtain ⟨s, hs, hs2⟩ := List.any_eq_true.1 hg
            rw [hno s hs] at hs2
            cases hs2
          · rintro c0 ⟨⟨s0, ts1, M1⟩, hM1⟩ D0 hB0
            dsimp only at hB0 hM1
            obtain ⟨rfl, hsin, hsg, hts1⟩ := hB0
            obtain ⟨s1, s2, s3⟩ := s0
            have hsm := nextL_mem hsin
            obtain rfl : d = s1 := hsm.1.symm
            obtain rfl : n + 1 = s2 := hsm.2.1.symm
            have hs3 := hsm.2.2.1
            dsimp only at hs3 hsg
            have hs3b : s3 < 2 ^ r.entries.length := next_lt hm hnl hs3
            · skip
              refine awp_exit ?_
              refine aend_block_exit ?_
              refine aend_block ?_
              refine aend_then ?_
              refine awp_seq ?_
              refine awp_region ?_
              refine sq rfl rfl hn rfl (q_loadAd rfl rfl (id := 7) rfl Tryz.underlying61 rfl sz61 rfl rfl sees0) ?_
              refine run_nil ?_
              refine aend_then ?_
              refine awp_region ?_
              refine stepW (s_alloc 7 rfl rfl rfl (nb hn rfl) zr61 rfl rfl) fun b7 => ?_
              refine stepW (s_store rfl rfl rfl rfl rfl rfl (id := 7) rfl sz61 rfl (Nat.le_of_ble_eq_true rfl) rfl trivial) fun _ => ?_
              refine run_nil ?_
              exact aend_round_onM ⟨((d, n + 1, s3), ts1, M1, b7, D0 :: dm), hd, by simp only; omega, hs3b, by simp only; rw [hts1]; split <;> simp [hts], hM1, hsg, by simp only; rw [hts1]; exact .next (s := (d, n + 1, s3)) hpt hd9 hsin⟩ ⟨.inl rfl, holdT_anys _⟩ ⟨.inl rfl, .inl rfl, .inl rfl, .inl rfl, .inl rfl, trivial⟩ (muS_next hd9 hnl) (by repeat (first | exact kr _ | refine kc rfl ?_)) (by repeat (first | exact kr _ | refine kc rfl ?_)) rfl
      · try simp only [decide_eq_true_eq, decide_eq_false_iff_not, Bool.and_eq_true, Bool.or_eq_true, Bool.and_eq_false_iff, Bool.or_eq_false_iff, Bool.not_eq_true', Bool.not_eq_false', beq_iff_eq, bne_iff_ne, ne_eq, beq_eq_false_iff_ne, bne_eq_false_iff_eq, Int.not_lt, Int.not_le] at hb2
        obtain rfl : d = 10 := by omega
        refine awp_exit ?_
        refine aend_then_exit ?_
        refine aend_then_exit ?_
        refine aend_block_exit ?_
        refine aend_then ?_
        refine awp_seq ?_
        refine awp_region ?_
        refine sq rfl rfl hn rfl (q_load rfl rfl (id := 6) rfl Tryz.underlying22 rfl rfl sees0) ?_
        refine sq rfl rfl hn rfl (q_assign rfl rfl) ?_
        refine sq rfl rfl hn rfl (q_assign rfl rfl) ?_
        refine run_nil ?_
        refine aend_then ?_
        refine awp_ret ?_
        refine gh_end (g_freezeV (t := 2) (sz := 1) (n := r.entries.length) (es := ts.map intE) 23 rfl rfl (allD_ints ts) (by simp [hts]) (by rw [← hts]; exact chunk_int ts) (Nat.le_refl _) (by simp only [maxLen]; omega)) ?_
        exact ret_M (.inl rfl) ⟨(ts, 0), .inr (.inr ⟨hc0, hg0, rfl, hts, n, m, hpt⟩)⟩ (.inr rfl) (hands_2d rfl (.tmp rfl) (.tmp rfl)) trivial rfl
end Go.Proofs.YtnbmmopjkkofoaaGreat
namespace Go.Proofs.YtnbmmopjkkofoaaGreat
set_option linter.all false
theorem ext_getD {a b : List Int} (h : a.length = b.length) (k : ∀ j, j < a.length → a.getD j 0 = b.getD j 0) : a = b := by
  apply List.ext_getElem h
  intro i h1 h2
  have := k i h1
  simpa [List.getD_eq_getElem?_getD, h1, h2] using this
theorem getD_set (l : List Int) (i j : Nat) (x : Int) : (l.set i x).getD j 0 = if i = j ∧ j < l.length then x else l.getD j 0 := by
  simp only [List.getD_eq_getElem?_getD, List.getElem?_set]
  by_cases h : i = j
  · subst h
    by_cases hl : i < l.length <;> simp [hl]
  · simp [h]
theorem getD_bump (c : List Int) (h x : Int) (j : Nat) : (bump c h x).getD j 0 = c.getD j 0 + if h.toNat = j ∧ j < c.length then x else 0 := by
  unfold bump
  rw [getD_set]
  split
  · rename_i hh; rw [hh.1]
  · omega
theorem bump_comm (c : List Int) (a x b y : Int) : bump (bump c a x) b y = bump (bump c b y) a x := by
  apply ext_getD (by simp [bump_len])
  intro j hj
  simp only [getD_bump, bump_len]
  omega
theorem comeF_bump {d : Nat} {s : Int} : ∀ {k : Nat} {es : List Ent5} {c : List Int} {h x : Int}, comeF d s k es (bump c h x) = bump (comeF d s k es c) h x
  | _, [], _, _, _ => rfl
  | k, e :: es, c, h, x => by
    simp only [comeF]
    cases d.testBit k && (e.sheet == s)
    · simp only [cond_false]; exact comeF_bump
    · simp only [cond_true]
      rw [bump_comm c h x, bump_comm _ h x, comeF_bump]
theorem or_bit (d j i : Nat) : (d ||| 2 ^ j).testBit i = (d.testBit i || decide (j = i)) := by
  rw [Nat.testBit_or, Nat.testBit_two_pow]
theorem comeF_or_lt {d j : Nat} {s : Int} : ∀ {k : Nat} {es : List Ent5} {c : List Int}, j < k → comeF (d ||| 2 ^ j) s k es c = comeF d s k es c
  | _, [], _, _ => rfl
  | k, e :: es, c, h => by
    simp only [comeF, or_bit]
    rw [show decide (j = k) = false by simp; omega, Bool.or_false]
    exact comeF_or_lt (by omega)
theorem comeF_or {d j : Nat} {s : Int} {e : Ent5} (hb : d.testBit j = false) : ∀ {k : Nat} {es : List Ent5} {c : List Int}, k ≤ j → es[j - k]? = some e →
    comeF (d ||| 2 ^ j) s k es c = bif e.sheet == s then bump (bump (comeF d s k es c) e.frm (-1)) e.to 1 else comeF d s k es c
  | _, [], _, _, h => by simp at h
  | k, x :: es, c, hk, he => by
    by_cases hkj : k = j
    · subst hkj
      simp only [Nat.sub_self, List.getElem?_cons_zero, Option.some.injEq] at he
      subst he
      simp only [comeF, or_bit, hb, decide_true, Bool.or_true, Bool.true_and, Bool.false_and, cond_false]
      rw [comeF_or_lt (by omega)]
      cases x.sheet == s
      · rfl
      · simp only [cond_true]; rw [comeF_bump, comeF_bump]
    · simp only [comeF, or_bit]
      rw [show decide (j = k) = false by simp; omega, Bool.or_false]
      refine comeF_or hb (by omega) ?_
      rw [show j - k = (j - (k + 1)) + 1 by omega] at he
      simpa using he
theorem comeF_zero {s : Int} : ∀ {k : Nat} {es : List Ent5} {c : List Int}, comeF 0 s k es c = c
  | _, [], _ => rfl
  | k, e :: es, c => by simp only [comeF, Nat.zero_testBit, Bool.false_and, cond_false]; exact comeF_zero
def openD (a b : Int) (e : Ent5) : Int := bif (e.kind == 1) && (e.frm == a) && (e.to == b) then 1 else bif (e.kind == 2) && (e.frm == b) && (e.to == a) then -1 else 0
theorem openF_def {d : Nat} {a b : Int} {k : Nat} {e : Ent5} {es : List Ent5} {n : Int} : openF d a b k (e :: es) n = openF d a b (k + 1) es (n + bif d.testBit k then openD a b e else 0) := by
  simp only [openF, openD]
  cases d.testBit k <;> cases ((e.kind == 1) && (e.frm == a) && (e.to == b)) <;> cases ((e.kind == 2) && (e.frm == b) && (e.to == a)) <;> simp <;> rfl
theorem openF_add {d : Nat} {a b : Int} : ∀ {k : Nat} {es : List Ent5} {n x : Int}, openF d a b k es (n + x) = openF d a b k es n + x
  | _, [], _, _ => rfl
  | k, e :: es, n, x => by
    rw [openF_def, openF_def, Int.add_right_comm, openF_add]
theorem openF_or_lt {d j : Nat} {a b : Int} : ∀ {k : Nat} {es : List Ent5} {n : Int}, j < k → openF (d ||| 2 ^ j) a b k es n = openF d a b k es n
  | _, [], _, _ => rfl
  | k, e :: es, n, h => by
    rw [openF_def, openF_def, or_bit, show decide (j = k) = false by simp; omega, Bool.or_false]
    exact openF_or_lt (by omega)
theorem openF_or {d j : Nat} {a b : Int} {e : Ent5} (hb : d.testBit j = false) : ∀ {k : Nat} {es : List Ent5} {n : Int}, k ≤ j → es[j - k]? = some e → openF (d ||| 2 ^ j) a b k es n = openF d a b k es n + openD a b e
  | _, [], _, _, h => by simp at h
  | k, x :: es, n, hk, he => by
    rw [openF_def, openF_def, or_bit]
    by_cases hkj : k = j
    · subst hkj
      simp only [Nat.sub_self, List.getElem?_cons_zero, Option.some.injEq] at he
      subst he
      simp only [hb, decide_true, Bool.or_true, cond_true, cond_false]
      rw [openF_or_lt (by omega), openF_add, Int.add_zero]
    · rw [show decide (j = k) = false by simp; omega, Bool.or_false]
      refine openF_or hb (by omega) ?_
      rw [show j - k = (j - (k + 1)) + 1 by omega] at he
      simpa using he
theorem openF_zero {a b : Int} : ∀ {k : Nat} {es : List Ent5} {n : Int}, openF 0 a b k es n = n
  | _, [], _ => rfl
  | k, e :: es, n => by rw [openF_def, Nat.zero_testBit, cond_false, Int.add_zero]; exact openF_zero
theorem getD_upd (l : List Int) (k j : Nat) (x : Int) : (upd l k x).getD j 0 = l.getD j 0 + if k = j ∧ j < l.length then x else 0 := by
  unfold upd
  rw [getD_set]
  split
  · rename_i hh; rw [hh.1]
  · omega
theorem getD_come0 {h : Int} (j : Nat) (hj : j < 4) : (come0 h).getD j 0 = if h.toNat = j then 1 else 0 := by
  unfold come0
  rw [getD_bump]
  have : ([0, 0, 0, 0] : List Int).getD j 0 = 0 := by rcases j with _ | _ | _ | _ | j <;> rfl
  rw [this]
  by_cases e : h.toNat = j <;> simp [e, hj]
theorem come0_move {f t : Int} : bump (bump (come0 f) f (-1)) t 1 = come0 t := by
  apply ext_getD (by simp [bump_len, come0_len])
  intro j hj
  simp only [bump_len, come0_len] at hj
  simp only [getD_bump, bump_len, come0_len, getD_come0 j hj, hj, and_true]
  omega
theorem come0_idx {h : Int} (h0 : 0 ≤ h) (h4 : h < 4) : idxOf (fun x => (1 : Int) == x) (come0 h) = h := by
  obtain ⟨k, rfl⟩ : ∃ k : Nat, h = k := ⟨h.toNat, by omega⟩
  have hk : k < 4 := by omega
  rcases k with _ | _ | _ | _ | k
  · rfl
  · rfl
  · rfl
  · rfl
  · omega
/-- The set of what has happened, and the state of the reference. -/
structure OkS (r : Reg) (m : Nat) (st : RSt) : Prop where
  l1 : st.1.length = 4
  l2 : st.2.length = 16
  pl : ∀ s : Nat, s < r.start.length → comeF m (s : Int) 0 r.entries (come0 (r.start.getD s 0)) = come0 (st.1.getD s 0) ∧ 0 ≤ st.1.getD s 0 ∧ st.1.getD s 0 < r.houses
  rest : ∀ s : Nat, r.start.length ≤ s → st.1.getD s 0 = 0
  op : ∀ a b : Nat, a < 4 → b < 4 → openN r m (a : Int) (b : Int) = st.2.getD (a * 4 + b) 0
  nn : ∀ j, 0 ≤ st.2.getD j 0
theorem getD_ge {l : List Int} {j : Nat} (h : l.length ≤ j) : l.getD j 0 = 0 := by simp [List.getD_eq_getElem?_getD, List.getElem?_eq_none h]
theorem OkS.places {r : Reg} {m : Nat} {st : RSt} (v : Valid r) (h : OkS r m st) : placesA r m = st.1 := by
  apply ext_getD (by rw [placesA_len, h.l1])
  intro j hj
  rw [placesA_len] at hj
  have : (placesA r m).getD j 0 = placeN r m r.start.length j := getD_of (placesL_get hj)
  rw [this]
  unfold placeN
  split
  · rename_i hlt
    obtain ⟨k1, k2, k3⟩ := h.pl j hlt
    unfold placeOf
    rw [k1, come0_idx k2 (by have := v.h4; omega)]
  · rename_i hge
    rw [getD_ge (by omega), h.rest j (by omega)]
theorem OkS.start (r : Reg) (v : Valid r) : OkS r 0 (startA r r.start.length, List.replicate 16 0) := by
  have h4 := v.s4
  have hlen := startA_len (r := r) (Nat.le_refl _) h4
  have hget : ∀ s, s < r.start.length → (startA r r.start.length).getD s 0 = r.start.getD s 0 := fun s hs => by
    simp only [startA, List.getD_eq_getElem?_getD, List.take_length]
    rw [List.getElem?_append_left hs]
  refine ⟨hlen, by simp, fun s hs => ?_, fun s hs => ?_, fun a b ha hb => ?_, fun j => ?_⟩
  · rw [comeF_zero, hget s hs]
    have := v.st (r.start.getD s 0) (getD_mem hs)
    have := v.h4
    exact ⟨rfl, by omega, by omega⟩
  · simp only [startA, List.getD_eq_getElem?_getD, List.take_length]
    rw [List.getElem?_append_right hs, List.getElem?_replicate]
    split <;> rfl
  · unfold openN
    rw [openF_zero, List.getD_eq_getElem?_getD, List.getElem?_replicate]
    split <;> rfl
  · simp only [List.getD_eq_getElem?_getD, List.getElem?_replicate]
    split <;> simp
theorem OkS.can {r : Reg} {m k : Nat} {st : RSt} {e : Ent5} (v : Valid r) (h : OkS r m st) (he : r.entries[k]? = some e) (hb : m.testBit k = false) : canE r k e m = (refStep e st).isSome := by
  have hen := v.en e (List.mem_of_getElem? he)
  have h4 := v.h4
  have hop := h.op e.to.toNat e.frm.toNat (by omega) (by omega)
  rw [show ((e.to.toNat : Nat) : Int) = e.to by omega, show ((e.frm.toNat : Nat) : Int) = e.frm by omega] at hop
  unfold canE refStep
  rw [h.places v, hb, hop, Bool.eq_iff_iff]
  simp only [Bool.not_false, Bool.true_and, Bool.and_eq_true, beq_iff_eq, Bool.or_eq_true, bne_iff_ne, ne_eq, decide_eq_true_eq]
  cases hc : ((st.1.getD e.sheet.toNat 0 != e.frm) || ((e.kind == 2) && decide (st.2.getD (e.to.toNat * 4 + e.frm.toNat) 0 < 1)))
  · simp only [cond_false, Option.isSome_some]
    simp at hc
    simp only [iff_true]
    refine ⟨hc.1, ?_⟩
    by_cases hk : e.kind = 2
    · right; have := hc.2 hk; simp only [List.getD_eq_getElem?_getD]; omega
    · exact .inl hk
  · simp only [cond_true, Option.isSome_none]
    simp at hc
    simp only [List.getD_eq_getElem?_getD]
    constructor
    · rintro ⟨h1, h2⟩
      rcases hc with hc | hc
      · exact absurd h1 hc
      · omega
    · intro h; cases h
theorem OkS.step {r : Reg} {m k : Nat} {st st' : RSt} {e : Ent5} (v : Valid r) (h : OkS r m st) (he : r.entries[k]? = some e) (hb : m.testBit k = false) (hs : refStep e st = some st') : OkS r (m ||| 2 ^ k) st' := by
  have hen := v.en e (List.mem_of_getElem? he)
  have h4 := v.h4; have hs4 := v.s4
  unfold refStep at hs
  cases hc : ((st.1.getD e.sheet.toNat 0 != e.frm) || ((e.kind == 2) && decide (st.2.getD (e.to.toNat * 4 + e.frm.toNat) 0 < 1))) with
  | true => rw [hc] at hs; cases hs
  | false =>
    rw [hc] at hs
    simp only [cond_false, Option.some.injEq] at hs
    have hat : st.1.getD e.sheet.toNat 0 = e.frm := by
      simp only [Bool.or_eq_false_iff, bne_eq_false_iff_eq] at hc
      exact hc.1
    subst hs
    refine ⟨by simp [h.l1], ?_, fun s hlt => ?_, fun s hge => ?_, fun a b ha hb2 => ?_, fun j => ?_⟩
    · have := h.l2
      cases e.kind == 2 <;> cases e.kind == 1 <;> simp [upd_len, this]
    · obtain ⟨k1, k2, k3⟩ := h.pl s hlt
      simp only [getD_set]
      rw [comeF_or hb (Nat.zero_le _) (by simpa using he), k1]
      by_cases hes : e.sheet = (s : Int)
      · have e1 : e.sheet.toNat = s := by omega
        rw [show (e.sheet == (s : Int)) = true by simpa using hes]
        simp only [cond_true]
        rw [if_pos ⟨e1, by rw [h.l1]; omega⟩, ← e1, hat, come0_move]
        exact ⟨rfl, by omega, by omega⟩
      · rw [show (e.sheet == (s : Int)) = false by simpa using hes]
        simp only [cond_false]
        rw [if_neg (by omega)]
        exact ⟨rfl, k2, k3⟩
    · simp only [getD_set]
      rw [if_neg (by omega)]
      exact h.rest s hge
    · have hop := h.op a b ha hb2
      unfold openN at hop ⊢
      rw [openF_or hb (Nat.zero_le _) (by simpa using he), hop]
      have hl2 := h.l2
      have hfa : (e.frm == (a : Int)) = decide (e.frm.toNat = a) := by rw [Bool.eq_iff_iff]; simp; omega
      have htb : (e.to == (b : Int)) = decide (e.to.toNat = b) := by rw [Bool.eq_iff_iff]; simp; omega
      have hfb : (e.frm == (b : Int)) = decide (e.frm.toNat = b) := by rw [Bool.eq_iff_iff]; simp; omega
      have hta : (e.to == (a : Int)) = decide (e.to.toNat = a) := by rw [Bool.eq_iff_iff]; simp; omega
      simp only [openD, hfa, htb, hfb, hta]
      by_cases hk1 : e.kind = 1
      · have hk2 : (e.kind == 2) = false := by simp [hk1]
        have hk1' : (e.kind == 1) = true := by simp [hk1]
        simp only [hk1', hk2, cond_true, cond_false, Bool.true_and, Bool.false_and, getD_upd]
        congr 1
        by_cases hh : e.frm.toNat = a ∧ e.to.toNat = b
        · rw [if_pos (by omega)]; simp [hh.1, hh.2]
        · rw [if_neg (by omega)]
          have : (decide (e.frm.toNat = a) && decide (e.to.toNat = b)) = false := by simp; omega
          rw [this]; rfl
      · have hk1' : (e.kind == 1) = false := by simp [hk1]
        by_cases hk2 : e.kind = 2
        · have hk2' : (e.kind == 2) = true := by simp [hk2]
          simp only [hk1', hk2', cond_true, cond_false, Bool.true_and, Bool.false_and, getD_upd]
          congr 1
          by_cases hh : e.frm.toNat = b ∧ e.to.toNat = a
          · rw [if_pos (by omega)]; simp [hh.1, hh.2]
          · rw [if_neg (by omega)]
            have : (decide (e.frm.toNat = b) && decide (e.to.toNat = a)) = false := by simp; omega
            rw [this]; rfl
        · have hk2' : (e.kind == 2) = false := by simp [hk2]
          simp [hk1', hk2']
    · have hnn := h.nn
      by_cases hk2 : e.kind = 2
      · have hk1 : (e.kind == 1) = false := by simp [hk2]
        have hk2' : (e.kind == 2) = true := by simp [hk2]
        simp only [hk1, hk2', cond_true, cond_false, getD_upd]
        have := hnn j
        split
        · rename_i hj
          rw [hk2', Bool.true_and, Bool.or_eq_false_iff, decide_eq_false_iff_not, hj.1] at hc
          omega
        · omega
      · have hk2' : (e.kind == 2) = false := by simp [hk2]
        simp only [hk2', cond_false]
        cases e.kind == 1
        · exact hnn j
        · simp only [cond_true, getD_upd]
          have := hnn j
          split <;> omega
theorem day_ref {r : Reg} (v : Valid r) {day : Int} : ∀ (ts : List Int) (k : Nat) (es : List Ent5) (m : Nat) (st : RSt), r.entries.drop k = es → ts.length = es.length → OkS r m st → (∀ i : Nat, ts[i]? = some day → m.testBit (k + i) = false) →
    (dayF r day k ts m = none ∧ refDayF day es ts st = none) ∨ ∃ m' st', dayF r day k ts m = some m' ∧ refDayF day es ts st = some st' ∧ OkS r m' st' ∧ ∀ i, m'.testBit i = true ↔ (m.testBit i = true ∨ (k ≤ i ∧ ts[i - k]? = some day))
  | [], k, es, m, st, _, hl, ho, _ => by
    obtain rfl : es = [] := List.eq_nil_of_length_eq_zero (by simpa using hl.symm)
    exact .inr ⟨m, st, rfl, rfl, ho, fun i => by simp⟩
  | t :: ts, k, [], m, st, _, hl, ho, _ => by simp at hl
  | t :: ts, k, e :: es, m, st, hd, hl, ho, hf => by
    have he : r.entries[k]? = some e := by
      have h1 : (r.entries.drop k)[0]? = some e := by rw [hd]; rfl
      simpa using h1
    have hd' : r.entries.drop (k + 1) = es := by
      have h1 : (r.entries.drop k).drop 1 = es := by rw [hd]; rfl
      rw [List.drop_drop] at h1
      exact h1
    have hl' : ts.length = es.length := by simpa using hl
    simp only [dayF, refDayF]
    by_cases ht : t = day
    · subst ht
      have hfree := hf 0 rfl
      simp only [bne_self_eq_false, cond_false]
      have hcb : canB r k m = (refStep e st).isSome := by
        have : canB r k m = canE r k e m := by unfold canB; rw [he]
        rw [this]
        exact ho.can v he hfree
      rw [hcb]
      cases hs : refStep e st with
      | none => left; simp
      | some st' =>
        simp only [Option.isSome_some, Bool.not_true, cond_false]
        have hk := ho.step v he hfree hs
        rcases day_ref v ts (k + 1) es (m ||| 2 ^ k) st' hd' hl' hk (fun i hi => by
          rw [or_bit]
          have := hf (i + 1) (by simpa using hi)
          rw [show k + 1 + i = k + (i + 1) by omega, this]
          simp) with h | ⟨m', st'', h1, h2, h3, h4⟩
        · exact .inl h
        · refine .inr ⟨m', st'', h1, h2, h3, fun i => ?_⟩
          rw [h4, or_bit]
          simp only [Bool.or_eq_true, decide_eq_true_eq]
          by_cases e1 : k = i
          · subst e1; simp
          · by_cases e2 : k + 1 ≤ i
            · rw [show i - k = (i - (k + 1)) + 1 by omega]
              have e3 : k ≤ i := by omega
              simp [e1, e2, e3]
            · have e3 : ¬ k ≤ i := by omega
              simp [e1, e2, e3]
    · have hb : (t != day) = true := by simpa using ht
      simp only [hb, cond_true]
      rcases day_ref v ts (k + 1) es m st hd' hl' ho (fun i hi => by
          rw [show k + 1 + i = k + (i + 1) by omega]
          exact hf (i + 1) (by simpa using hi)) with h | ⟨m', st'', h1, h2, h3, h4⟩
      · exact .inl h
      · refine .inr ⟨m', st'', h1, h2, h3, fun i => ?_⟩
        rw [h4]
        by_cases e1 : k = i
        · subst e1
          have e3 : ¬ k + 1 ≤ k := by omega
          simp [ht, e3]
        · by_cases e2 : k + 1 ≤ i
          · rw [show i - k = (i - (k + 1)) + 1 by omega]
            have e3 : k ≤ i := by omega
            simp [e2, e3]
          · have e3 : ¬ k ≤ i := by omega
            simp [e2, e3]
theorem getD_splice {o l : List Int} {k n j : Nat} (hl : l.length = n) (hk : k + n ≤ o.length) : (splice o k n l).getD j 0 = if k ≤ j ∧ j < k + n then l.getD (j - k) 0 else o.getD j 0 := by
  unfold splice
  simp only [List.getD_eq_getElem?_getD]
  rw [← apply_ite (fun q : Option Int => q.getD 0)]
  congr 1
  rw [List.append_assoc, List.getElem?_append]
  have h1 : (o.take k).length = k := by rw [List.length_take]; omega
  rw [h1]
  by_cases h : j < k
  · rw [if_pos h, if_neg (by omega), List.getElem?_take, if_pos h]
  · rw [if_neg h, List.getElem?_append, hl]
    by_cases h2 : j - k < n
    · rw [if_pos h2, if_pos (by omega)]
    · rw [if_neg h2, if_neg (by omega), List.getElem?_drop]
      congr 1
      omega
theorem putDay_house {out : List Int} {day : Nat} {st : RSt} (hd : day < 10) (ho : out.length = 200) (h1 : st.1.length = 4) (h2 : st.2.length = 16) {j s : Nat} (hj : j < 10) (hs : s < 4) : houseAt (putDay out day st) j s = if j = day then st.1.getD s 0 else houseAt out j s := by
  unfold houseAt putDay
  rw [getD_splice h2 (by rw [splice_len (by omega) h1]; omega), if_neg (by omega), getD_splice h1 (by omega)]
  by_cases e : j = day
  · subst e
    rw [if_pos (by omega), if_pos rfl]
    congr 1
    omega
  · rw [if_neg (by omega), if_neg e]
theorem putDay_open {out : List Int} {day : Nat} {st : RSt} (hd : day < 10) (ho : out.length = 200) (h1 : st.1.length = 4) (h2 : st.2.length = 16) {j a b : Nat} (hj : j < 10) (ha : a < 4) (hb : b < 4) : openAt (putDay out day st) j a b = if j = day then st.2.getD (a * 4 + b) 0 else openAt out j a b := by
  unfold openAt putDay
  rw [getD_splice h2 (by rw [splice_len (by omega) h1]; omega)]
  by_cases e : j = day
  · subst e
    rw [if_pos (by omega), if_pos rfl]
    congr 1
    omega
  · rw [if_neg (by omega), if_neg e, getD_splice h1 (by omega), if_neg (by omega)]
/-- What a list of what has happened, and a record of the days, have to do with each other. -/
def Agrees (r : Reg) (t : List Int) (o : List Int) (n : Nat) (m : Nat) : Prop :=
  (∀ s, s < 4 → houseAt o n s = (placesA r m).getD s 0) ∧ (∀ a b : Nat, a < 4 → b < 4 → openAt o n a b = openN r m (a : Int) (b : Int) ∧ 0 ≤ openAt o n a b) ∧ (∀ s, s < r.start.length → 0 ≤ (placesA r m).getD s 0 ∧ (placesA r m).getD s 0 < r.houses) ∧ ∀ i, m.testBit i = true ↔ ∃ x, t[i]? = some x ∧ x ≤ (n : Int)
theorem playF_ref {r : Reg} (v : Valid r) {t : List Int} (hl : t.length = r.entries.length) : ∀ (cnt n d : Nat) (out : List Int) (st : RSt), n + cnt = 10 → OkS r d st → (∀ i, d.testBit i = true ↔ ∃ x, t[i]? = some x ∧ x < (n : Int)) → out.length = 200 →
    (playF r t cnt n d = none ∧ (refPlayF r t cnt n out st).2 = false) ∨ ∃ ds, playF r t cnt n d = some ds ∧ ds.length = cnt ∧ (refPlayF r t cnt n out st).2 = true ∧
      (∀ j, j < n → (∀ s, s < 4 → houseAt (refPlayF r t cnt n out st).1 j s = houseAt out j s) ∧ ∀ a b, a < 4 → b < 4 → openAt (refPlayF r t cnt n out st).1 j a b = openAt out j a b) ∧
      ∀ j, j < cnt → Agrees r t (refPlayF r t cnt n out st).1 (n + j) (ds.getD j 0)
  | 0, n, d, out, st, hn, ho, hb, hlen => .inr ⟨[], rfl, rfl, rfl, fun j _ => ⟨fun _ _ => rfl, fun _ _ _ _ => rfl⟩, fun j hj => by omega⟩
  | cnt + 1, n, d, out, st, hn, ho, hb, hlen => by
    have hday := day_ref v (day := (n : Int)) t 0 r.entries d st rfl hl ho (fun i hi => by
      rw [Nat.zero_add]
      cases hq : d.testBit i with
      | false => rfl
      | true =>
        obtain ⟨x, h1, h2⟩ := (hb i).1 hq
        rw [hi] at h1
        cases h1
        omega)
    simp only [playF, refPlayF]
    rcases hday with ⟨h1, h2⟩ | ⟨m', st', h1, h2, h3, h4⟩
    · rw [h1, h2]
      exact .inl ⟨rfl, rfl⟩
    · rw [h1, h2]
      simp only
      have hbits : ∀ i, m'.testBit i = true ↔ ∃ x, t[i]? = some x ∧ x < ((n + 1 : Nat) : Int) := fun i => by
        rw [h4, hb]
        simp only [Nat.zero_le, true_and, Nat.sub_zero]
        constructor
        · rintro (⟨x, k1, k2⟩ | h)
          · exact ⟨x, k1, by omega⟩
          · exact ⟨_, h, by omega⟩
        · rintro ⟨x, k1, k2⟩
          by_cases e : x = (n : Int)
          · subst e; exact .inr k1
          · exact .inl ⟨x, k1, by omega⟩
      have hlen' := putDay_len (out := out) (day := n) (st := st') (by omega) hlen h3.l1 h3.l2
      rcases playF_ref v hl cnt (n + 1) m' (putDay out n st') st' (by omega) h3 hbits hlen' with ⟨k1, k2⟩ | ⟨ds, k1, k2, k3, k4, k5⟩
      · rw [k1]; exact .inl ⟨rfl, k2⟩
      · rw [k1]
        refine .inr ⟨m' :: ds, rfl, by simp [k2], k3, fun j hj => ⟨fun s hs => ?_, fun a b ha hb2 => ?_⟩, fun j hj => ?_⟩
        · rw [(k4 j (by omega)).1 s hs, putDay_house (by omega) hlen h3.l1 h3.l2 (by omega) hs, if_neg (by omega)]
        · rw [(k4 j (by omega)).2 a b ha hb2, putDay_open (by omega) hlen h3.l1 h3.l2 (by omega) ha hb2, if_neg (by omega)]
        · cases j with
          | zero =>
            refine ⟨fun s hs => ?_, fun a b ha hb2 => ?_, fun s hs => ?_, fun i => ?_⟩
            · show houseAt _ n s = _
              rw [(k4 n (by omega)).1 s hs, putDay_house (by omega) hlen h3.l1 h3.l2 (by omega) hs, if_pos rfl]
              show _ = (placesA r m').getD s 0
              rw [h3.places v]
            · show openAt _ n a b = _ ∧ 0 ≤ openAt _ n a b
              rw [(k4 n (by omega)).2 a b ha hb2, putDay_open (by omega) hlen h3.l1 h3.l2 (by omega) ha hb2, if_pos rfl]
              exact ⟨(h3.op a b ha hb2).symm, h3.nn _⟩
            · show 0 ≤ (placesA r m').getD s 0 ∧ (placesA r m').getD s 0 < r.houses
              rw [h3.places v]
              exact (h3.pl s hs).2
            · show m'.testBit i = true ↔ _
              rw [hbits]
              exact ⟨fun ⟨x, h1, h2⟩ => ⟨x, h1, by omega⟩, fun ⟨x, h1, h2⟩ => ⟨x, h1, by omega⟩⟩
          | succ j =>
            have := k5 j (by omega)
            rw [show n + 1 + j = n + (j + 1) by omega] at this
            exact this
theorem datedF_get : ∀ {es : List Ent5} {ts : List Int} {i : Nat} {e : Ent5}, datedF es ts = true → es[i]? = some e → ∃ x, ts[i]? = some x ∧ e.lo ≤ x ∧ x ≤ e.hi
  | [], _, _, _, _, h => by simp at h
  | e :: es, [], _, _, h, _ => by simp [datedF] at h
  | e :: es, t :: ts, 0, e', h, he => by
    simp only [List.getElem?_cons_zero, Option.some.injEq] at he
    subst he
    simp only [datedF, Bool.and_eq_true, decide_eq_true_eq] at h
    exact ⟨t, rfl, h.1.1, h.1.2⟩
  | e :: es, t :: ts, i + 1, e', h, he => by
    simp only [datedF, Bool.and_eq_true] at h
    obtain ⟨x, h1, h2⟩ := datedF_get (es := es) (ts := ts) (i := i) h.2 (by simpa using he)
    exact ⟨x, by simpa using h1, h2⟩
theorem dated_day {r : Reg} (v : Valid r) {t : List Int} (h : datedF r.entries t = true) {i : Nat} {x : Int} (hx : t[i]? = some x) : 0 ≤ x ∧ x ≤ 9 := by
  have hlen := datedF_len h
  have hi := (List.getElem?_eq_some_iff.1 hx).1
  obtain ⟨e, he⟩ := ex_get (l := r.entries) (i := i) (by omega)
  obtain ⟨y, h1, h2, h3⟩ := datedF_get h he
  rw [hx] at h1
  cases h1
  have := v.en e (List.mem_of_getElem? he)
  omega
/-- The program's play and the reference's. -/
theorem play_ref {r : Reg} (v : Valid r) {t : List Int} (h : datedF r.entries t = true) :
    (playDays r t = none ∧ (refPlay r t).2 = false) ∨ ∃ ds, playDays r t = some ds ∧ ds.length = 10 ∧ (refPlay r t).2 = true ∧ ∀ n, n < 10 → Agrees r t (refPlay r t).1 n (ds.getD n 0) := by
  rcases playF_ref v (datedF_len h) 10 0 0 (List.replicate 200 0) (startA r r.start.length, List.replicate 16 0) rfl (OkS.start r v) (fun i => by
    simp only [Nat.zero_testBit, Bool.false_eq_true, false_iff]
    rintro ⟨x, h1, h2⟩
    have := dated_day v h h1
    omega) (List.length_replicate) with ⟨k1, k2⟩ | ⟨ds, k1, k2, k3, _, k5⟩
  · exact .inl ⟨k1, k2⟩
  · exact .inr ⟨ds, k1, k2, k3, fun n hn => by have := k5 n hn; rw [Nat.zero_add] at this; exact this⟩
end Go.Proofs.YtnbmmopjkkofoaaGreat
namespace Go.Proofs.YtnbmmopjkkofoaaGreat
set_option linter.all false
theorem canB_bit {r : Reg} {n m : Nat} (h : canB r n m = true) : m.testBit n = false := by
  unfold canB at h
  split at h
  · cases h
  · unfold canE at h
    simp only [Bool.and_eq_true, Bool.not_eq_true'] at h
    exact h.1.1
theorem nextL_cases {r : Reg} {d n m : Nat} {s : Nat × Nat × Nat} (h : s ∈ nextL r d n m) : ∃ e, r.entries[n]? = some e ∧ ((inE e d = true ∧ canB r n m = true ∧ s = (d, n + 1, m ||| 2 ^ n)) ∨ ((m.testBit n = true ∨ (d : Int) < e.hi) ∧ s = (d, n + 1, m))) := by
  unfold nextL at h
  split at h
  · rename_i e he
    refine ⟨e, he, ?_⟩
    unfold nextE at h
    rcases List.mem_append.1 h with h | h
    · cases hc : (inE e d && canB r n m) <;> rw [hc] at h <;> simp at h
      simp only [Bool.and_eq_true] at hc
      exact .inl ⟨hc.1, hc.2, h⟩
    · cases hc : (m.testBit n || decide ((d : Int) < e.hi)) <;> rw [hc] at h <;> simp at h
      simp only [Bool.or_eq_true, decide_eq_true_eq] at hc
      exact .inr ⟨hc, h⟩
  · cases h
theorem nextL_take {r : Reg} {d n m : Nat} {e : Ent5} (he : r.entries[n]? = some e) (h1 : inE e d = true) (h2 : canB r n m = true) : (d, n + 1, m ||| 2 ^ n) ∈ nextL r d n m := by
  simp [nextL, he, nextE, h1, h2]
theorem nextL_skip {r : Reg} {d n m : Nat} {e : Ent5} (he : r.entries[n]? = some e) (h : m.testBit n = true ∨ (d : Int) < e.hi) : (d, n + 1, m) ∈ nextL r d n m := by
  have : (m.testBit n || decide ((d : Int) < e.hi)) = true := by simpa using h
  simp only [nextL, he, nextE, this, cond_true]
  simp
theorem or_ne {m n : Nat} (h : m.testBit n = false) : m ||| 2 ^ n ≠ m := fun e => by
  have := congrArg (fun x => x.testBit n) e
  simp only [or_bit, h, decide_true, Bool.or_true] at this
  cases this
def PInv (r : Reg) (d n m : Nat) (ts : List Int) : Prop := d ≤ 10 ∧ n ≤ r.entries.length ∧ ts.length = r.entries.length ∧ m < 2 ^ r.entries.length ∧ ∀ i e, r.entries[i]? = some e →
  (m.testBit i = true → ∃ x : Nat, ts[i]? = some (x : Int) ∧ inE e x = true ∧ (x < d ∨ x = d ∧ i < n)) ∧ (m.testBit i = false → (d : Int) < e.hi ∨ ((d : Int) = e.hi ∧ n ≤ i))
def Fits (r : Reg) (t : List Int) (d n m : Nat) (ts : List Int) : Prop := ∀ i, i < r.entries.length → (m.testBit i = true → t[i]? = ts[i]?) ∧ (m.testBit i = false → ∃ x, t[i]? = some x ∧ ((d : Int) < x ∨ (x = d ∧ n ≤ i)))
inductive Way (r : Reg) (t : List Int) : Nat → Nat → Nat → Prop
  | start : Way r t 0 0 0
  | day {d m} (h : Way r t d r.entries.length m) (hd : d ≤ 9) (hs : seenN r d m = true) : Way r t (d + 1) 0 m
  | take {d n m e} (h : Way r t d n m) (hd : d ≤ 9) (he : r.entries[n]? = some e) (ht : t[n]? = some (d : Int)) (hi : inE e d = true) (hc : canB r n m = true) : Way r t d (n + 1) (m ||| 2 ^ n)
  | skip {d n m e x} (h : Way r t d n m) (hd : d ≤ 9) (he : r.entries[n]? = some e) (ht : t[n]? = some x) (hx : x ≠ (d : Int)) (hq : m.testBit n = true ∨ (d : Int) < e.hi) : Way r t d (n + 1) m
theorem path_way {r : Reg} (v : Valid r) {d n m : Nat} {ts : List Int} (h : PathTo r d n m ts) : PInv r d n m ts ∧ ∀ t : List Int, t.length = r.entries.length → Fits r t d n m ts → Way r t d n m := by
  induction h with
  | start =>
    refine ⟨⟨Nat.zero_le _, Nat.zero_le _, by simp, Nat.two_pow_pos _, fun i e he => ⟨fun hb => by simp at hb, fun _ => ?_⟩⟩, fun t _ _ => .start⟩
    have := v.en e (List.mem_of_getElem? he)
    omega
  | @day d m ts h hd hs ih =>
    obtain ⟨⟨i1, i2, i3, i4, i5⟩, ihw⟩ := ih
    refine ⟨⟨by omega, Nat.zero_le _, i3, i4, fun i e he => ⟨fun hb => ?_, fun hb => ?_⟩⟩, fun t ht hf => ?_⟩
    · obtain ⟨x, k1, k2, k3⟩ := (i5 i e he).1 hb
      exact ⟨x, k1, k2, .inl (by omega)⟩
    · have := (i5 i e he).2 hb
      have hlt := (List.getElem?_eq_some_iff.1 he).1
      omega
    · refine .day (ihw t ht fun i hi => ⟨(hf i hi).1, fun hb => ?_⟩) hd hs
      obtain ⟨x, k1, k2⟩ := (hf i hi).2 hb
      exact ⟨x, k1, .inl (by omega)⟩
  | @next d n m ts s h hd hs ih =>
    obtain ⟨⟨i1, i2, i3, i4, i5⟩, ihw⟩ := ih
    obtain ⟨e, he, hcase⟩ := nextL_cases hs
    have hn := (List.getElem?_eq_some_iff.1 he).1
    rcases hcase with ⟨hin, hcan, rfl⟩ | ⟨hq, rfl⟩
    · have hb0 := canB_bit hcan
      rw [if_neg (or_ne hb0)]
      dsimp only
      refine ⟨⟨i1, hn, by simpa using i3, Nat.or_lt_two_pow i4 (Nat.pow_lt_pow_right (by omega) hn), fun i e' he' => ⟨fun hb => ?_, fun hb => ?_⟩⟩, fun t ht hf => ?_⟩
      · rw [or_bit] at hb
        by_cases e1 : n = i
        · subst e1
          rw [he] at he'
          cases he'
          exact ⟨d, by simp [i3, hn], hin, .inr ⟨rfl, by omega⟩⟩
        · simp only [e1, decide_false, Bool.or_false] at hb
          obtain ⟨x, k1, k2, k3⟩ := (i5 i e' he').1 hb
          exact ⟨x, by rw [List.getElem?_set_ne e1]; exact k1, k2, by omega⟩
      · rw [or_bit] at hb
        simp only [Bool.or_eq_false_iff, decide_eq_false_iff_not] at hb
        have := (i5 i e' he').2 hb.1
        omega
      · have htn : t[n]? = some (d : Int) := by
          rw [(hf n hn).1 (by rw [or_bit]; simp)]
          simp [i3, hn]
        refine .take (ihw t ht fun i hi => ⟨fun hb => ?_, fun hb => ?_⟩) hd he htn hin hcan
        · have e1 : n ≠ i := fun e1 => by subst e1; rw [hb0] at hb; cases hb
          rw [(hf i hi).1 (by rw [or_bit, hb]; rfl), List.getElem?_set_ne e1]
        · by_cases e1 : n = i
          · subst e1; exact ⟨d, htn, .inr ⟨rfl, Nat.le_refl _⟩⟩
          · obtain ⟨x, k1, k2⟩ := (hf i hi).2 (by rw [or_bit, hb]; simpa using e1)
            exact ⟨x, k1, by omega⟩
    · rw [if_pos rfl]
      dsimp only
      refine ⟨⟨i1, hn, i3, i4, fun i e' he' => ⟨fun hb => ?_, fun hb => ?_⟩⟩, fun t ht hf => ?_⟩
      · obtain ⟨x, k1, k2, k3⟩ := (i5 i e' he').1 hb
        exact ⟨x, k1, k2, by omega⟩
      · by_cases e1 : n = i
        · subst e1
          rw [he] at he'
          cases he'
          exact .inl (hq.resolve_left (by rw [hb]; simp))
        · have := (i5 i e' he').2 hb
          omega
      · obtain ⟨x, hx⟩ := ex_get (l := t) (i := n) (by omega)
        refine .skip (x := x) (ihw t ht fun i hi => ⟨(hf i hi).1, fun hb => ?_⟩) hd he hx (fun e1 => ?_) hq
        · obtain ⟨y, k1, k2⟩ := (hf i hi).2 hb
          exact ⟨y, k1, by omega⟩
        · subst e1
          cases hb : m.testBit n with
          | true =>
            obtain ⟨y, k1, k2, k3⟩ := (i5 n e he).1 hb
            have := (hf n hn).1 hb
            rw [hx, k1] at this
            have := Option.some.inj this
            omega
          | false =>
            obtain ⟨y, k1, k2⟩ := (hf n hn).2 hb
            rw [hx] at k1
            have := Option.some.inj k1
            omega
theorem playF_snoc {r : Reg} {t : List Int} : ∀ {k n m0 : Nat} {ds : List Nat} {m' : Nat}, playF r t k n m0 = some ds → dayF r ((n + k : Nat) : Int) 0 t (ds.getLastD m0) = some m' → playF r t (k + 1) n m0 = some (ds ++ [m'])
  | 0, n, m0, ds, m', h, hd => by
    simp only [playF, Option.some.injEq] at h
    subst h
    simp only [List.getLastD_nil, Nat.add_zero] at hd
    simp [playF, hd]
  | k + 1, n, m0, ds, m', h, hd => by
    rw [playF] at h
    split at h
    · cases h
    · rename_i d1 h1
      split at h
      · cases h
      · rename_i ds1 h2
        cases h
        rw [List.getLastD_cons] at hd
        have := playF_snoc (n := n + 1) h2 (by rw [show n + 1 + k = n + (k + 1) by omega]; exact hd)
        rw [playF, h1]
        simp only
        rw [this]
        rfl
theorem playF_get {r : Reg} {t : List Int} : ∀ {cnt n m0 : Nat} {ds : List Nat}, playF r t cnt n m0 = some ds → ∀ j, j < cnt → ∃ x, ds[j]? = some x ∧ playF r t j n m0 = some (ds.take j) ∧ dayF r ((n + j : Nat) : Int) 0 t ((ds.take j).getLastD m0) = some x
  | 0, _, _, _, _, j, hj => by omega
  | cnt + 1, n, m0, ds, h, j, hj => by
    rw [playF] at h
    split at h
    · cases h
    · rename_i d1 h1
      split at h
      · cases h
      · rename_i ds1 h2
        cases h
        cases j with
        | zero => exact ⟨d1, rfl, rfl, h1⟩
        | succ j =>
          obtain ⟨x, k1, k2, k3⟩ := playF_get h2 j (by omega)
          refine ⟨x, by simpa using k1, ?_, ?_⟩
          · rw [playF, h1]
            simp only
            rw [k2]
            rfl
          · rw [List.take_succ_cons, List.getLastD_cons, show n + (j + 1) = n + 1 + j by omega]
            exact k3
theorem playF_lenx {r : Reg} {t : List Int} : ∀ {cnt n m0 : Nat} {ds : List Nat}, playF r t cnt n m0 = some ds → ds.length = cnt
  | 0, _, _, _, h => by simp only [playF, Option.some.injEq] at h; subst h; rfl
  | cnt + 1, n, m0, ds, h => by
    rw [playF] at h
    split at h
    · cases h
    · split at h
      · cases h
      · rename_i ds1 h2
        cases h
        simp [playF_lenx h2]
theorem seenAll_snoc {r : Reg} {m : Nat} : ∀ {n : Nat} {ds : List Nat}, seenAll r n (ds ++ [m]) = (seenAll r n ds && seenN r (n + ds.length) m)
  | n, [] => by simp [seenAll, seenN]
  | n, d :: ds => by
    simp only [List.cons_append, seenAll, seenAll_snoc, List.length_cons, Bool.and_assoc]
    rw [show n + 1 + ds.length = n + (ds.length + 1) by omega]
theorem seenAll_get {r : Reg} : ∀ {n : Nat} {ds : List Nat}, seenAll r n ds = true → ∀ {j x : Nat}, ds[j]? = some x → seenN r (n + j) x = true
  | _, [], _, _, _, h => by simp at h
  | n, d :: ds, hs, 0, x, h => by
    simp only [List.getElem?_cons_zero, Option.some.injEq] at h
    subst h
    simp only [seenAll, Bool.and_eq_true] at hs
    exact hs.1
  | n, d :: ds, hs, j + 1, x, h => by
    simp only [seenAll, Bool.and_eq_true] at hs
    have := seenAll_get hs.2 (j := j) (x := x) (by simpa using h)
    rwa [show n + 1 + j = n + (j + 1) by omega] at this
theorem way_play {r : Reg} {t : List Int} (hl : t.length = r.entries.length) {d n m : Nat} (h : Way r t d n m) : n ≤ r.entries.length ∧ ∃ ds, playF r t d 0 0 = some ds ∧ seenAll r 0 ds = true ∧ dayF r (d : Int) 0 t (ds.getLastD 0) = dayF r (d : Int) n (t.drop n) m := by
  induction h with
  | start => exact ⟨Nat.zero_le _, [], rfl, rfl, rfl⟩
  | @day d m h hd hs ih =>
    obtain ⟨_, ds, k1, k2, k3⟩ := ih
    have hday : dayF r (d : Int) 0 t (ds.getLastD 0) = some m := by
      rw [k3, List.drop_of_length_le (by omega)]
      rfl
    have := playF_snoc k1 (by rw [Nat.zero_add]; exact hday)
    refine ⟨Nat.zero_le _, _, this, ?_, ?_⟩
    · rw [seenAll_snoc, k2, playF_lenx k1, Nat.zero_add, hs]
      rfl
    · rw [List.getLastD_concat]
      rfl
  | @take d n m e h hd he ht hi hc ih =>
    obtain ⟨_, ds, k1, k2, k3⟩ := ih
    refine ⟨(List.getElem?_eq_some_iff.1 he).1, ds, k1, k2, ?_⟩
    rw [k3, drop_of ht]
    simp only [dayF, bne_self_eq_false, cond_false, hc, Bool.not_true]
  | @skip d n m e x h hd he ht hx hq ih =>
    obtain ⟨_, ds, k1, k2, k3⟩ := ih
    refine ⟨(List.getElem?_eq_some_iff.1 he).1, ds, k1, k2, ?_⟩
    rw [k3, drop_of ht]
    have : (x != (d : Int)) = true := by simpa using hx
    simp only [dayF, this, cond_true]
/-- A truth, and what has happened at the end of each day. -/
structure Truth (r : Reg) (t : List Int) (ds : List Nat) : Prop where
  dated : datedF r.entries t = true
  play : playDays r t = some ds
  seen : seenAll r 0 ds = true
theorem datedF_of : ∀ {es : List Ent5} {ts : List Int}, ts.length = es.length → (∀ (i : Nat) (e : Ent5), es[i]? = some e → ∃ x, ts[i]? = some x ∧ e.lo ≤ x ∧ x ≤ e.hi) → datedF es ts = true
  | [], [], _, _ => rfl
  | [], _ :: _, h, _ => by simp at h
  | _ :: _, [], h, _ => by simp at h
  | e :: es, t :: ts, h, k => by
    obtain ⟨x, h1, h2⟩ := k 0 e rfl
    simp only [List.getElem?_cons_zero, Option.some.injEq] at h1
    subst h1
    simp only [datedF, Bool.and_eq_true, decide_eq_true_eq]
    exact ⟨h2, datedF_of (by simpa using h) fun i e' he => by simpa using k (i + 1) e' (by simpa using he)⟩
theorem path_full {r : Reg} (v : Valid r) {n m : Nat} {ts : List Int} (h : PInv r 10 n m ts) : ∀ i, i < r.entries.length → m.testBit i = true := fun i hi => by
  obtain ⟨e, he⟩ := ex_get hi
  have := v.en e (List.mem_of_getElem? he)
  cases hb : m.testBit i with
  | true => rfl
  | false => have := (h.2.2.2.2 i e he).2 hb; omega
theorem truth_of_path {r : Reg} (v : Valid r) {n m : Nat} {ts : List Int} (h : PathTo r 10 n m ts) : ∃ ds, Truth r ts ds := by
  obtain ⟨hi, hw⟩ := path_way v h
  have hall := path_full v hi
  have hl := hi.2.2.1
  have way := hw ts hl fun i hlt => ⟨fun _ => rfl, fun hb => by rw [hall i hlt] at hb; cases hb⟩
  obtain ⟨_, ds, k1, k2, _⟩ := way_play hl way
  refine ⟨ds, datedF_of hl fun i e he => ?_, k1, k2⟩
  obtain ⟨x, h1, h2, _⟩ := (hi.2.2.2.2 i e he).1 (hall i (List.getElem?_eq_some_iff.1 he).1)
  simp only [inE, Bool.and_eq_true, decide_eq_true_eq] at h2
  exact ⟨x, h1, h2⟩
theorem path_go {r : Reg} (v : Valid r) : ∀ (k d n m : Nat) (ts : List Int), muS r d n < k → PathTo r d n m ts → goesB r d n m = true → ∃ n' m' ts', PathTo r 10 n' m' ts' ∧ Fits r ts' d n m ts
  | 0, _, _, _, _, h, _, _ => by omega
  | k + 1, d, n, m, ts, hk, hp, hg => by
    have hi := (path_way v hp).1
    by_cases hd : d = 10
    · subst hd
      exact ⟨n, m, ts, hp, fun i hlt => ⟨fun _ => rfl, fun hb => by rw [path_full v hi i hlt] at hb; cases hb⟩⟩
    have hd9 : d ≤ 9 := by have := hi.1; omega
    by_cases hn : n < r.entries.length
    · rw [goesB_next hd9 hn] at hg
      obtain ⟨s, hs, hgs⟩ := List.any_eq_true.1 hg
      have hnx := PathTo.next hp hd9 hs
      have hmu := muS_next (r := r) hd9 hn
      obtain ⟨e, he, hcase⟩ := nextL_cases hs
      rcases hcase with ⟨hin, hcan, rfl⟩ | ⟨hq, rfl⟩
      · have hb0 := canB_bit hcan
        rw [if_neg (or_ne hb0)] at hnx
        obtain ⟨n', m', ts', k1, k2⟩ := path_go v k _ _ _ _ (by dsimp only; omega) hnx hgs
        refine ⟨n', m', ts', k1, fun i hlt => ⟨fun hb => ?_, fun hb => ?_⟩⟩
        · have e1 : n ≠ i := fun e1 => by subst e1; rw [hb0] at hb; cases hb
          rw [(k2 i hlt).1 (by rw [or_bit, hb]; rfl), List.getElem?_set_ne e1]
        · by_cases e1 : n = i
          · subst e1
            refine ⟨d, ?_, .inr ⟨rfl, Nat.le_refl _⟩⟩
            rw [(k2 n hlt).1 (by rw [or_bit]; simp)]
            simp [hi.2.2.1, hn]
          · obtain ⟨x, q1, q2⟩ := (k2 i hlt).2 (by rw [or_bit, hb]; simpa using e1)
            dsimp only at q2
            exact ⟨x, q1, by omega⟩
      · rw [if_pos rfl] at hnx
        obtain ⟨n', m', ts', k1, k2⟩ := path_go v k _ _ _ _ (by dsimp only; omega) hnx hgs
        refine ⟨n', m', ts', k1, fun i hlt => ⟨(k2 i hlt).1, fun hb => ?_⟩⟩
        obtain ⟨x, q1, q2⟩ := (k2 i hlt).2 hb
        dsimp only at q2
        exact ⟨x, q1, by omega⟩
    · obtain rfl : n = r.entries.length := by have := hi.2.1; omega
      rw [goesB_day hd9] at hg
      simp only [Bool.and_eq_true] at hg
      have hmu := muS_day (r := r) (n := r.entries.length) hd9
      obtain ⟨n', m', ts', k1, k2⟩ := path_go v k _ _ _ _ (by omega) (.day hp hd9 hg.1) hg.2
      refine ⟨n', m', ts', k1, fun i hlt => ⟨(k2 i hlt).1, fun hb => ?_⟩⟩
      obtain ⟨x, q1, q2⟩ := (k2 i hlt).2 hb
      exact ⟨x, q1, .inl (by omega)⟩
theorem way_bits {r : Reg} {t : List Int} (v : Valid r) (hd : datedF r.entries t = true) {d n m : Nat} (h : Way r t d n m) : ∀ i, i < r.entries.length → (m.testBit i = true ↔ ∃ x, t[i]? = some x ∧ (x < (d : Int) ∨ x = d ∧ i < n)) := by
  induction h with
  | start =>
    intro i hi
    simp only [Nat.zero_testBit, Bool.false_eq_true, false_iff]
    rintro ⟨x, h1, h2⟩
    have := dated_day v hd h1
    omega
  | @day d m h hd9 hs ih =>
    intro i hi
    rw [ih i hi]
    exact ⟨fun ⟨x, h1, h2⟩ => ⟨x, h1, by omega⟩, fun ⟨x, h1, h2⟩ => ⟨x, h1, by omega⟩⟩
  | @take d n m e h hd9 he ht hin hc ih =>
    intro i hi
    rw [or_bit, Bool.or_eq_true, ih i hi, decide_eq_true_eq]
    constructor
    · rintro (⟨x, h1, h2⟩ | rfl)
      · exact ⟨x, h1, by omega⟩
      · exact ⟨_, ht, .inr ⟨rfl, by omega⟩⟩
    · rintro ⟨x, h1, h2⟩
      by_cases e1 : n = i
      · exact .inr e1
      · exact .inl ⟨x, h1, by omega⟩
  | @skip d n m e x h hd9 he ht hx hq ih =>
    intro i hi
    rw [ih i hi]
    constructor
    · rintro ⟨y, h1, h2⟩; exact ⟨y, h1, by omega⟩
    · rintro ⟨y, h1, h2⟩
      refine ⟨y, h1, ?_⟩
      by_cases e1 : n = i
      · subst e1
        rw [ht] at h1
        cases h1
        omega
      · omega
/-- The step of the way from a spot within a day. -/
theorem way_step {r : Reg} {t : List Int} {ds : List Nat} (v : Valid r) (T : Truth r t ds) {d n m : Nat} (h : Way r t d n m) (hd : d ≤ 9) (hn : n < r.entries.length) : ∃ m', (d, n + 1, m') ∈ nextL r d n m ∧ Way r t d (n + 1) m' := by
  have hl := datedF_len T.dated
  obtain ⟨_, ds', k1, k2, k3⟩ := way_play hl h
  obtain ⟨x, q1, q2, q3⟩ := playF_get T.play d (by omega)
  rw [k1] at q2
  cases q2
  rw [Nat.zero_add, k3] at q3
  obtain ⟨e, he⟩ := ex_get hn
  obtain ⟨y, y1, y2, y3⟩ := datedF_get T.dated he
  rw [drop_of y1] at q3
  by_cases hy : y = (d : Int)
  · subst hy
    simp only [dayF, bne_self_eq_false, cond_false] at q3
    have hc : canB r n m = true := by
      cases hc : canB r n m with
      | true => rfl
      | false => rw [hc] at q3; cases q3
    have hin : inE e d = true := by simp only [inE, Bool.and_eq_true, decide_eq_true_eq]; exact ⟨y2, y3⟩
    exact ⟨_, nextL_take he hin hc, .take h hd he y1 hin hc⟩
  · have hq : m.testBit n = true ∨ (d : Int) < e.hi := by
      by_cases hlt : y < (d : Int)
      · exact .inl ((way_bits v T.dated h n hn).2 ⟨y, y1, .inl hlt⟩)
      · exact .inr (by omega)
    exact ⟨_, nextL_skip he hq, .skip h hd he y1 hy hq⟩
/-- At the end of a day. -/
theorem way_end {r : Reg} {t : List Int} {ds : List Nat} (T : Truth r t ds) {d m : Nat} (h : Way r t d r.entries.length m) (hd : d ≤ 9) : ds[d]? = some m ∧ seenN r d m = true := by
  have hl := datedF_len T.dated
  obtain ⟨_, ds', k1, k2, k3⟩ := way_play hl h
  obtain ⟨x, q1, q2, q3⟩ := playF_get T.play d (by omega)
  rw [k1] at q2
  cases q2
  rw [Nat.zero_add, k3, List.drop_of_length_le (by omega)] at q3
  simp only [dayF, Option.some.injEq] at q3
  subst q3
  refine ⟨q1, ?_⟩
  have := seenAll_get T.seen q1
  rwa [Nat.zero_add] at this
theorem way_goes {r : Reg} {t : List Int} {ds : List Nat} (v : Valid r) (T : Truth r t ds) : ∀ (k d n m : Nat), muS r d n < k → Way r t d n m → goesB r d n m = true
  | 0, _, _, _, h, _ => by omega
  | k + 1, d, n, m, hk, h => by
    by_cases hd : 9 < d
    · exact goesB_end hd
    have hd9 : d ≤ 9 := by omega
    have hn := (way_play (datedF_len T.dated) h).1
    by_cases hlt : n < r.entries.length
    · obtain ⟨m', k1, k2⟩ := way_step v T h hd9 hlt
      have := muS_next (r := r) hd9 hlt
      rw [goesB_next hd9 hlt]
      exact List.any_eq_true.2 ⟨_, k1, way_goes v T k d (n + 1) m' (by omega) k2⟩
    · obtain rfl : n = r.entries.length := by omega
      have := muS_day (r := r) (n := r.entries.length) hd9
      have hs := (way_end T h hd9).2
      rw [goesB_day hd9, hs, way_goes v T k (d + 1) 0 m (by omega) (.day h hd9 hs)]
      rfl
theorem way_rch {r : Reg} {t : List Int} {ds : List Nat} (v : Valid r) (T : Truth r t ds) {N : Nat} {d n m : Nat} (h : Way r t d n m) (hd : d ≤ N) : Rch r N d n m := by
  have hg := way_goes v T _ _ _ _ (Nat.lt_succ_self _) h
  induction h with
  | start => exact .start hg
  | @day d m h hd9 hs ih =>
    refine .step (s := (d + 1, 0, m)) (ih (by omega) (way_goes v T _ _ _ _ (Nat.lt_succ_self _) h)) ?_ hg
    simp only [succL]
    rw [if_neg (by omega), if_neg (by omega)]
    simp
  | @take d n m e h hd9 he ht hin hc ih =>
    refine .step (s := (d, n + 1, m ||| 2 ^ n)) (ih hd (way_goes v T _ _ _ _ (Nat.lt_succ_self _) h)) ?_ hg
    simp only [succL]
    rw [if_pos (List.getElem?_eq_some_iff.1 he).1]
    exact nextL_take he hin hc
  | @skip d n m e x h hd9 he ht hx hq ih =>
    refine .step (s := (d, n + 1, m)) (ih hd (way_goes v T _ _ _ _ (Nat.lt_succ_self _) h)) ?_ hg
    simp only [succL]
    rw [if_pos (List.getElem?_eq_some_iff.1 he).1]
    exact nextL_skip he hq
/-- A truth's way. -/
theorem way_day {r : Reg} {t : List Int} {ds : List Nat} (v : Valid r) (T : Truth r t ds) : ∀ (k d n m : Nat), r.entries.length - n = k → n ≤ r.entries.length → Way r t d n m → d ≤ 9 → ∃ m', Way r t d r.entries.length m'
  | 0, d, n, m, hk, hn, h, hd => by
    obtain rfl : n = r.entries.length := by omega
    exact ⟨m, h⟩
  | k + 1, d, n, m, hk, hn, h, hd => by
    obtain ⟨m', _, k2⟩ := way_step v T h hd (by omega)
    exact way_day v T k d (n + 1) m' (by omega) (by omega) k2 hd
theorem way_all {r : Reg} {t : List Int} {ds : List Nat} (v : Valid r) (T : Truth r t ds) : ∀ d, d ≤ 9 → ∃ m, Way r t d r.entries.length m
  | 0, _ => way_day v T _ 0 0 0 rfl (Nat.zero_le _) .start (by omega)
  | d + 1, hd => by
    obtain ⟨m, h⟩ := way_all v T d (by omega)
    exact way_day v T _ (d + 1) 0 m rfl (Nat.zero_le _) (.day h (by omega) (way_end T h (by omega)).2) hd
theorem rch_goes {r : Reg} {N d n m : Nat} (h : Rch r N d n m) : goesB r d n m = true := by
  cases h with
  | start h => exact h
  | step _ _ hg => exact hg
theorem rch_path {r : Reg} {N d n m : Nat} (hN : N ≤ 9) (h : Rch r N d n m) : ∃ ts, PathTo r d n m ts := by
  induction h with
  | start => exact ⟨_, .start⟩
  | @step d n m s h hs hg ih =>
    obtain ⟨ts, hp⟩ := ih
    have hb := h.bd hN
    unfold succL at hs
    split at hs
    · exact ⟨_, .next hp (by omega) hs⟩
    · split at hs
      · cases hs
      · rw [List.mem_singleton] at hs
        subst hs
        obtain rfl : n = r.entries.length := by omega
        have := rch_goes h
        rw [goesB_day (by omega)] at this
        simp only [Bool.and_eq_true] at this
        exact ⟨_, .day hp (by omega) this.1⟩
/-- There is a truth. -/
theorem goes_truth {r : Reg} (v : Valid r) : goesB r 0 0 0 = true ↔ ∃ t ds, Truth r t ds := by
  constructor
  · intro h
    obtain ⟨n', m', ts', k1, _⟩ := path_go v _ 0 0 0 _ (Nat.lt_succ_self _) .start h
    obtain ⟨ds, T⟩ := truth_of_path v k1
    exact ⟨ts', ds, T⟩
  · rintro ⟨t, ds, T⟩
    exact way_goes v T _ 0 0 0 (Nat.lt_succ_self _) .start
/-- What can have happened at the end of a day. -/
theorem rch_truth {r : Reg} (v : Valid r) {N m : Nat} (hN : N ≤ 9) : Rch r N N r.entries.length m ↔ ∃ t ds, Truth r t ds ∧ ds[N]? = some m := by
  constructor
  · intro h
    obtain ⟨ts, hp⟩ := rch_path hN h
    obtain ⟨n', m', ts', k1, k2⟩ := path_go v _ _ _ _ _ (Nat.lt_succ_self _) hp (rch_goes h)
    obtain ⟨ds, T⟩ := truth_of_path v k1
    have way := (path_way v hp).2 ts' (datedF_len T.dated) k2
    exact ⟨ts', ds, T, (way_end T way hN).1⟩
  · rintro ⟨t, ds, T, hm⟩
    obtain ⟨m', h⟩ := way_all v T N hN
    have := (way_end T h hN).1
    rw [hm] at this
    cases this
    exact way_rch v T h (Nat.le_refl _)
end Go.Proofs.YtnbmmopjkkofoaaGreat
namespace Go.Proofs.YtnbmmopjkkofoaaGreat
set_option linter.all false
theorem nth_surj : ∀ {es : List Ent5} {ts : List Int}, datedF es ts = true → ∃ n, n < manyN es ∧ nthL es n = ts
  | [], [], _ => ⟨0, by simp [manyN], rfl⟩
  | [], _ :: _, h => by simp [datedF] at h
  | _ :: _, [], h => by simp [datedF] at h
  | e :: es, t :: ts, h => by
    simp only [datedF, Bool.and_eq_true, decide_eq_true_eq] at h
    obtain ⟨n, h1, h2⟩ := nth_surj h.2
    have hsp : ((span e : Nat) : Int) = e.hi - e.lo + 1 := by unfold span; omega
    have hk : (t - e.lo).toNat < span e := by omega
    have hpos : 0 < span e := by omega
    refine ⟨(t - e.lo).toNat + span e * n, ?_, ?_⟩
    · have : span e * (n + 1) ≤ span e * manyN es := Nat.mul_le_mul_left _ h1
      rw [Nat.mul_add, Nat.mul_one] at this
      simp only [manyN]
      omega
    · simp only [nthL]
      rw [Nat.add_mul_mod_self_left, Nat.mod_eq_of_lt hk, Nat.add_mul_div_left _ _ hpos, Nat.div_eq_of_lt hk, Nat.zero_add, h2]
      congr 1
      omega
theorem truth_iff {r : Reg} (v : Valid r) {t : List Int} : isTruthB r t = true ↔ ∃ ds, Truth r t ds := by
  unfold isTruthB
  constructor
  · intro h
    simp only [Bool.and_eq_true] at h
    obtain ⟨hd, hp, hs⟩ := h
    rcases play_ref v hd with ⟨_, k2⟩ | ⟨ds, k1, k2, k3, k4⟩
    · rw [k2] at hp; cases hp
    · refine ⟨ds, hd, k1, ?_⟩
      have key : ∀ (n : Nat) (es : List Nat), es = ds.drop n → seenAll r n es = true := by
        intro n es
        induction es generalizing n with
        | nil => intro _; rfl
        | cons d es ih =>
          intro he
          have hdn : ds[n]? = some d := by
            have : (ds.drop n)[0]? = some d := by rw [← he]; rfl
            simpa using this
          have hlt := (List.getElem?_eq_some_iff.1 hdn).1
          have htl : es = ds.drop (n + 1) := by
            have : (ds.drop n).drop 1 = es := by rw [← he]; rfl
            rw [List.drop_drop] at this
            exact this.symm
          simp only [seenAll, ih (n + 1) htl, Bool.and_true, List.all_eq_true]
          intro s hsm
          have hsi := v.si s hsm
          have hs4 := v.s4
          have h1 := List.all_eq_true.1 hs s hsm
          simp only [sightOK, beq_iff_eq] at h1
          simp only [seenB, Bool.or_eq_true, bne_iff_ne, ne_eq, beq_iff_eq]
          by_cases hday : s.day = (n : Int)
          · right
            have h2 := (k4 n (by omega)).1 s.sheet.toNat (by omega)
            rw [show s.day.toNat = n by omega, h2] at h1
            rw [show ds.getD n 0 = d by simp [List.getD_eq_getElem?_getD, hdn]] at h1
            exact h1
          · exact .inl hday
      exact key 0 ds rfl
  · rintro ⟨ds, T⟩
    rcases play_ref v T.dated with ⟨k1, _⟩ | ⟨ds', k1, k2, k3, k4⟩
    · rw [T.play] at k1; cases k1
    · rw [T.play] at k1
      cases k1
      simp only [Bool.and_eq_true]
      refine ⟨T.dated, k3, List.all_eq_true.2 fun s hsm => ?_⟩
      have hsi := v.si s hsm
      have hs4 := v.s4
      have hlt : s.day.toNat < 10 := by omega
      have hg : ds[s.day.toNat]? = some (ds.getD s.day.toNat 0) := by
        rw [List.getD_eq_getElem?_getD, List.getElem?_eq_getElem (by omega)]; rfl
      have h1 := seenAll_get T.seen hg
      rw [Nat.zero_add] at h1
      have h2 := List.all_eq_true.1 h1 s hsm
      simp only [seenB, Bool.or_eq_true, bne_iff_ne, ne_eq, beq_iff_eq] at h2
      simp only [sightOK, beq_iff_eq]
      rw [(k4 _ hlt).1 s.sheet.toNat (by omega)]
      exact h2.resolve_left (by omega)
theorem truths_mem {r : Reg} (v : Valid r) {t : List Int} : t ∈ truths r ↔ ∃ ds, Truth r t ds := by
  rw [← truth_iff v]
  unfold truths truthsF
  rw [List.mem_filter]
  constructor
  · exact fun h => h.2
  · intro h
    refine ⟨?_, h⟩
    unfold isTruthB at h
    simp only [Bool.and_eq_true] at h
    obtain ⟨n, h1, h2⟩ := nth_surj h.1
    exact List.mem_map.2 ⟨n, List.mem_range.2 h1, h2⟩
theorem goes_all_iff {r : Reg} (v : Valid r) : goesB r 0 0 0 = true ↔ allDays r ≠ [] := by
  rw [goes_truth v]
  unfold allDays
  constructor
  · rintro ⟨t, ds, T⟩ h
    have := (truths_mem v).2 ⟨ds, T⟩
    rw [List.map_eq_nil_iff] at h
    rw [h] at this
    cases this
  · intro h
    cases hq : truths r with
    | nil => rw [hq] at h; exact (h rfl).elim
    | cons t l =>
      obtain ⟨ds, T⟩ := (truths_mem v (t := t)).1 (by rw [hq]; exact List.mem_cons_self)
      exact ⟨t, ds, T⟩
/-- What has happened at the end of a day, and the reference's record of it. -/
def Pair (r : Reg) (N : Nat) (m : Nat) (o : List Int) : Prop :=
  (∀ s, s < 4 → houseAt o N s = (placesA r m).getD s 0) ∧ (∀ a b : Nat, a < 4 → b < 4 → openAt o N a b = openN r m (a : Int) (b : Int) ∧ 0 ≤ openAt o N a b) ∧ (∀ s, s < r.start.length → 0 ≤ (placesA r m).getD s 0 ∧ (placesA r m).getD s 0 < r.houses)
theorem truth_pair {r : Reg} (v : Valid r) {t : List Int} {ds : List Nat} (T : Truth r t ds) {N : Nat} (hN : N ≤ 9) : ∃ m, ds[N]? = some m ∧ Pair r N m (daysOf r t) := by
  rcases play_ref v T.dated with ⟨k1, _⟩ | ⟨ds', k1, k2, k3, k4⟩
  · rw [T.play] at k1; cases k1
  · rw [T.play] at k1
    cases k1
    refine ⟨ds.getD N 0, by rw [List.getD_eq_getElem?_getD, List.getElem?_eq_getElem (by omega)]; rfl, ?_⟩
    obtain ⟨h1, h2, h3, _⟩ := k4 N (by omega)
    exact ⟨h1, h2, h3⟩
/-- The evenings and all truths. -/
theorem ev_pairs {r : Reg} (v : Valid r) {N : Nat} {out : List Nat} (hN : N ≤ 9) (h : EvOK r N out) : (∀ m ∈ out, ∃ o ∈ allDays r, Pair r N m o) ∧ (∀ o ∈ allDays r, ∃ m ∈ out, Pair r N m o) := by
  constructor
  · intro m hm
    obtain ⟨t, ds, T, hd⟩ := (rch_truth v hN).1 ((h.1 m).1 hm)
    obtain ⟨m', h1, h2⟩ := truth_pair v T hN
    rw [hd] at h1
    cases h1
    exact ⟨_, List.mem_map.2 ⟨t, (truths_mem v).2 ⟨ds, T⟩, rfl⟩, h2⟩
  · intro o ho
    obtain ⟨t, ht, rfl⟩ := List.mem_map.1 ho
    obtain ⟨ds, T⟩ := (truths_mem v).1 ht
    obtain ⟨m, h1, h2⟩ := truth_pair v T hN
    exact ⟨m, (h.1 m).2 ((rch_truth v hN).2 ⟨t, ds, T, h1⟩), h2⟩
theorem ev_nil {r : Reg} (v : Valid r) {N : Nat} {out : List Nat} (hN : N ≤ 9) (h : EvOK r N out) : out = [] ↔ allDays r = [] := by
  obtain ⟨h1, h2⟩ := ev_pairs v hN h
  constructor
  · rintro rfl
    cases hq : allDays r with
    | nil => rfl
    | cons o l => obtain ⟨m, hm, _⟩ := h2 o (by rw [hq]; exact List.mem_cons_self); cases hm
  · intro e
    cases out with
    | nil => rfl
    | cons m l => obtain ⟨o, ho, _⟩ := h1 m List.mem_cons_self; rw [e] at ho; cases ho
theorem strict_eq : ∀ {a b : List Int}, a.Pairwise (· < ·) → b.Pairwise (· < ·) → (∀ x, x ∈ a ↔ x ∈ b) → a = b
  | [], [], _, _, _ => rfl
  | [], y :: b, _, _, h => by have := (h y).2 List.mem_cons_self; cases this
  | x :: a, [], _, _, h => by have := (h x).1 List.mem_cons_self; cases this
  | x :: a, y :: b, ha, hb, h => by
    rw [List.pairwise_cons] at ha hb
    have hxy : x = y := by
      rcases List.mem_cons.1 ((h x).1 List.mem_cons_self) with e | e
      · exact e
      · rcases List.mem_cons.1 ((h y).2 List.mem_cons_self) with f | f
        · exact f.symm
        · have := hb.1 x e; have := ha.1 y f; omega
    subst hxy
    congr 1
    refine strict_eq ha.2 hb.2 fun z => ⟨fun hz => ?_, fun hz => ?_⟩
    · rcases List.mem_cons.1 ((h z).1 (List.mem_cons_of_mem _ hz)) with e | e
      · have := ha.1 z hz; omega
      · exact e
    · rcases List.mem_cons.1 ((h z).2 (List.mem_cons_of_mem _ hz)) with e | e
      · have := hb.1 z hz; omega
      · exact e
theorem compUp {d : Array Int} (hs : ∀ i j, i ≤ j → j < d.size → d[i]! ≤ d[j]!) : ∀ m, m ≤ d.size → (Lib.compactUpTo d m).Pairwise (· < ·) ∧ (∀ x, x ∈ Lib.compactUpTo d m ↔ ∃ j, j < m ∧ d[j]! = x)
  | 0, _ => by simp [Lib.compactUpTo]
  | m + 1, hm => by
    obtain ⟨h1, h2⟩ := compUp hs m (by omega)
    have hsucc : Lib.compactUpTo d (m + 1) = Lib.compactUpTo d m ++ (if Lib.keeps d m then [d[m]!] else []) := by
      unfold Lib.compactUpTo
      rw [List.range_succ, List.filter_append, List.map_append]
      congr 1
      by_cases hk : Lib.keeps d m = true <;> simp [hk]
    rw [hsucc]
    by_cases hk : Lib.keeps d m = true
    · rw [if_pos hk]
      constructor
      · rw [List.pairwise_append]
        refine ⟨h1, by simp, fun a ha b hb => ?_⟩
        rw [List.mem_singleton] at hb
        subst hb
        obtain ⟨j, hj, rfl⟩ := (h2 a).1 ha
        have k1 := hs j (m - 1) (by omega) (by omega)
        have k2 := hs (m - 1) m (by omega) (by omega)
        have : d[m - 1]! ≠ d[m]! := by
          intro e
          unfold Lib.keeps at hk
          simp at hk
          rcases hk with hk | hk
          · omega
          · exact hk (by simpa using e.symm)
        omega
      · intro x
        rw [List.mem_append, h2, List.mem_singleton]
        constructor
        · rintro (⟨j, hj, e⟩ | rfl)
          · exact ⟨j, by omega, e⟩
          · exact ⟨m, by omega, rfl⟩
        · rintro ⟨j, hj, e⟩
          by_cases hjm : j = m
          · subst hjm; exact .inr e.symm
          · exact .inl ⟨j, by omega, e⟩
    · rw [if_neg hk, List.append_nil]
      refine ⟨h1, fun x => ?_⟩
      rw [h2]
      have hm0 : m ≠ 0 ∧ d[m]! = d[m - 1]! := by
        unfold Lib.keeps at hk
        simp at hk
        exact ⟨hk.1, by simpa using hk.2⟩
      constructor
      · rintro ⟨j, hj, e⟩; exact ⟨j, by omega, e⟩
      · rintro ⟨j, hj, e⟩
        by_cases hjm : j = m
        · subst hjm; exact ⟨j - 1, by omega, by rw [← hm0.2]; exact e⟩
        · exact ⟨j, by omega, e⟩
theorem comp_sorted {l : List Int} (h : l.Pairwise (· ≤ ·)) : (compL l).Pairwise (· < ·) ∧ ∀ x, x ∈ compL l ↔ x ∈ l := by
  unfold compL Lib.compact
  have hs : ∀ i j, i ≤ j → j < l.toArray.size → l.toArray[i]! ≤ l.toArray[j]! := fun i j hij hj => by
    have hj' : j < l.length := by simpa using hj
    rw [getElem!_pos l.toArray i (by simp; omega), getElem!_pos l.toArray j (by simpa using hj)]
    simp only [List.getElem_toArray]
    by_cases e : i = j
    · subst e; exact Int.le_refl _
    · exact List.pairwise_iff_getElem.1 h i j (by omega) hj' (by omega)
  obtain ⟨h1, h2⟩ := compUp hs l.length (by simp)
  refine ⟨h1, fun x => ?_⟩
  rw [h2, List.mem_iff_getElem]
  constructor
  · rintro ⟨j, hj, e⟩
    rw [getElem!_pos l.toArray j (by simpa using hj)] at e
    exact ⟨j, hj, by simpa using e⟩
  · rintro ⟨j, hj, e⟩
    refine ⟨j, hj, ?_⟩
    rw [getElem!_pos l.toArray j (by simpa using hj)]
    simpa using e
theorem sort_sorted (l : List Int) : (sortL l).Pairwise (· ≤ ·) ∧ ∀ x, x ∈ sortL l ↔ x ∈ l := by
  unfold sortL
  refine ⟨?_, fun x => List.mem_mergeSort⟩
  have := List.pairwise_mergeSort (le := fun x y : Int => decide (x ≤ y)) (fun a b c h1 h2 => by simp at *; omega) (fun a b => by simp; omega) l
  exact this.imp fun h => by simpa using h
theorem range_strict (n : Nat) (p : Nat → Bool) : (((List.range n).filter p).map Int.ofNat).Pairwise (· < ·) := by
  rw [List.pairwise_map]
  refine List.Pairwise.imp (R := (· < ·)) (fun h => by simpa using h) ?_
  exact List.Pairwise.filter _ List.pairwise_lt_range
theorem holders_eq {r : Reg} (v : Valid r) {N s : Nat} {out : List Nat} (hN : N ≤ 9) (hs : s < r.start.length) (h : EvOK r N out) : holdR r (s : Nat) out = refHolders r (allDays r) s N r.houses.toNat := by
  obtain ⟨h1, h2⟩ := ev_pairs v hN h
  have hs4 := v.s4
  unfold holdR
  obtain ⟨k1, k2⟩ := sort_sorted (holdL r out (s : Int).toNat)
  obtain ⟨q1, q2⟩ := comp_sorted k1
  refine strict_eq q1 (range_strict _ _) fun x => ?_
  rw [q2, k2]
  unfold holdL refHolders
  simp only [List.mem_map, List.mem_filter, List.mem_range, List.any_eq_true, beq_iff_eq, Int.toNat_natCast]
  constructor
  · rintro ⟨m, hm, rfl⟩
    obtain ⟨o, ho, p1, _, p3⟩ := h1 m hm
    have := p3 s hs
    refine ⟨((placesA r m).getD s 0).toNat, ⟨by omega, o, ho, ?_⟩, ?_⟩
    · rw [p1 s (by omega)]; omega
    · show ((_ : Nat) : Int) = _
      omega
  · rintro ⟨x, ⟨_, o, ho, e⟩, rfl⟩
    obtain ⟨m, hm, p1, _⟩ := h2 o ho
    exact ⟨m, hm, by rw [← p1 s (by omega), e]; rfl⟩
theorem surely_eq {r : Reg} (v : Valid r) {N : Nat} {a : Int} {out : List Nat} (hN : N ≤ 9) (hne : out ≠ []) (h : EvOK r N out) : surelyR r a out = refSurely (allDays r) a N r.start.length := by
  obtain ⟨h1, h2⟩ := ev_pairs v hN h
  have hs4 := v.s4
  unfold surelyR refSurely
  have hie : out.isEmpty = false := by cases out with
    | nil => exact (hne rfl).elim
    | cons _ _ => rfl
  rw [hie, cond_false]
  congr 1
  apply List.filter_congr
  intro s hs
  rw [List.mem_range] at hs
  rw [Bool.eq_iff_iff, List.all_eq_true, List.all_eq_true]
  constructor
  · intro k o ho
    obtain ⟨m, hm, p1, _⟩ := h2 o ho
    rw [p1 s (by omega)]
    exact k m hm
  · intro k m hm
    obtain ⟨o, ho, p1, _⟩ := h1 m hm
    rw [← p1 s (by omega)]
    exact k o ho
/-- The bounds of numbers from 0 to 9. -/
theorem rangeF_ok : ∀ (l : List Int) (p : Int × Int), (∀ x ∈ l, 0 ≤ x ∧ x ≤ 9) → (l.foldl (fun p n => (min p.1 n, max p.2 n)) p).1 = l.foldl min p.1 ∧ (l.foldl (fun p n => (min p.1 n, max p.2 n)) p).2 = l.foldl max p.2
  | [], p, _ => ⟨rfl, rfl⟩
  | x :: l, p, h => by
    simp only [List.foldl_cons]
    exact rangeF_ok l _ fun y hy => h y (List.mem_cons_of_mem _ hy)
theorem foldmin : ∀ (l : List Int) (x : Int), (l.foldl min x = x ∨ l.foldl min x ∈ l) ∧ l.foldl min x ≤ x ∧ ∀ y ∈ l, l.foldl min x ≤ y
  | [], x => ⟨.inl rfl, Int.le_refl _, fun y hy => by cases hy⟩
  | z :: l, x => by
    obtain ⟨h1, h2, h3⟩ := foldmin l (min x z)
    simp only [List.foldl_cons]
    refine ⟨?_, by omega, fun y hy => ?_⟩
    · rcases h1 with h1 | h1
      · rw [h1]
        by_cases hx : x ≤ z
        · left; omega
        · right; rw [show min x z = z by omega]; exact List.mem_cons_self
      · exact .inr (List.mem_cons_of_mem _ h1)
    · rcases List.mem_cons.1 hy with rfl | hy
      · omega
      · exact h3 y hy
theorem foldmax : ∀ (l : List Int) (x : Int), (l.foldl max x = x ∨ l.foldl max x ∈ l) ∧ x ≤ l.foldl max x ∧ ∀ y ∈ l, y ≤ l.foldl max x
  | [], x => ⟨.inl rfl, Int.le_refl _, fun y hy => by cases hy⟩
  | z :: l, x => by
    obtain ⟨h1, h2, h3⟩ := foldmax l (max x z)
    simp only [List.foldl_cons]
    refine ⟨?_, by omega, fun y hy => ?_⟩
    · rcases h1 with h1 | h1
      · rw [h1]
        by_cases hx : z ≤ x
        · left; omega
        · right; rw [show max x z = z by omega]; exact List.mem_cons_self
      · exact .inr (List.mem_cons_of_mem _ h1)
    · rcases List.mem_cons.1 hy with rfl | hy
      · omega
      · exact h3 y hy
theorem range_same {l : List Int} {x : Int} {l' : List Int} (hm : ∀ y, y ∈ x :: l' ↔ y ∈ l) (hb : ∀ y ∈ l, 0 ≤ y ∧ y ≤ 9) : rangeF l = (minL x l', maxL x l') := by
  unfold rangeF
  obtain ⟨e1, e2⟩ := rangeF_ok l (9, 0) hb
  have hx : x ∈ l := (hm x).1 List.mem_cons_self
  have bx := hb x hx
  refine Prod.ext ?_ ?_
  · rw [e1]
    dsimp only
    obtain ⟨h1, h2, h3⟩ := foldmin l 9
    have k1 := minL_mem (x := x) (l := l')
    have k2 := minL_le (x := x) (l := l')
    have k3 := h3 _ ((hm _).1 k1)
    have k4 := hb _ ((hm _).1 k1)
    rcases h1 with h1 | h1
    · have := h3 x hx; have := k2 x List.mem_cons_self; omega
    · have := k2 _ ((hm _).2 h1); omega
  · rw [e2]
    dsimp only
    obtain ⟨h1, h2, h3⟩ := foldmax l 0
    have k1 := maxL_mem (x := x) (l := l')
    have k2 := maxL_ge (x := x) (l := l')
    have k3 := h3 _ ((hm _).1 k1)
    have k4 := hb _ ((hm _).1 k1)
    rcases h1 with h1 | h1
    · have := h3 x hx; have := k2 x List.mem_cons_self; omega
    · have := k2 _ ((hm _).2 h1); omega
theorem pairs_mem {r : Reg} {N : Nat} {out : List Nat} {all : List (List Int)} {f : Nat → Int} {g : List Int → Int} (h1 : ∀ m ∈ out, ∃ o ∈ all, Pair r N m o) (h2 : ∀ o ∈ all, ∃ m ∈ out, Pair r N m o) (hfg : ∀ m o, Pair r N m o → g o = f m) :
    ∀ y, y ∈ out.map f ↔ y ∈ all.map g := fun y => by
  simp only [List.mem_map]
  constructor
  · rintro ⟨m, hm, rfl⟩
    obtain ⟨o, ho, p⟩ := h1 m hm
    exact ⟨o, ho, hfg m o p⟩
  · rintro ⟨o, ho, rfl⟩
    obtain ⟨m, hm, p⟩ := h2 o ho
    exact ⟨m, hm, (hfg m o p).symm⟩
theorem count_eq {r : Reg} (v : Valid r) {N m : Nat} {o : List Int} {a : Int} (p : Pair r N m o) : (countAt o N r.start.length a : Int) = (heldN r m a : Nat) := by
  have hs4 := v.s4
  unfold countAt heldN
  have : (placesA r m).take r.start.length = (List.range r.start.length).map fun s => houseAt o N s := by
    apply List.ext_getElem?
    intro i
    rw [List.getElem?_take, List.getElem?_map]
    split
    · rename_i hi
      rw [List.getElem?_range hi, getD_some (l := placesA r m) (by rw [placesA_len]; omega), ← p.1 i (by omega)]
      rfl
    · rename_i hi
      rw [List.getElem?_eq_none (by simpa using hi)]
      rfl
  rw [this, List.countP_map]
  rfl
theorem held_eq {r : Reg} (v : Valid r) {N : Nat} {a : Int} {out : List Nat} (hN : N ≤ 9) (hne : out ≠ []) (h : EvOK r N out) : heldR r a out = refInHand r (allDays r) a N := by
  obtain ⟨h1, h2⟩ := ev_pairs v hN h
  have hs4 := v.s4
  cases out with
  | nil => exact (hne rfl).elim
  | cons d0 l =>
    unfold heldR refInHand
    refine (range_same (fun y => ?_) fun y hy => ?_).symm
    · exact pairs_mem (f := fun d => (heldN r d a : Int)) h1 h2 (fun m o p => count_eq v p) y
    · obtain ⟨o, ho, rfl⟩ := List.mem_map.1 hy
      have : countAt o N r.start.length a ≤ (List.range r.start.length).length := List.countP_le_length
      rw [List.length_range] at this
      omega
theorem owed_eq {r : Reg} (v : Valid r) {N a b : Nat} {out : List Nat} (ha : a < 4) (hb : b < 4) (hN : N ≤ 9) (hne : out ≠ []) (h : EvOK r N out) : owedR r (a : Nat) (b : Nat) out = refOwed (allDays r) a b N := by
  obtain ⟨h1, h2⟩ := ev_pairs v hN h
  have he6 := v.e6
  cases out with
  | nil => exact (hne rfl).elim
  | cons d0 l =>
    unfold owedR refOwed
    refine (range_same (fun y => ?_) fun y hy => ?_).symm
    · exact pairs_mem (f := fun d => openN r d (a : Nat) (b : Nat)) h1 h2 (fun m o p => (p.2.1 a b ha hb).1) y
    · obtain ⟨o, ho, rfl⟩ := List.mem_map.1 hy
      obtain ⟨m, _, p⟩ := h2 o ho
      have := p.2.1 a b ha hb
      have hbd := openF_bd (d := m) (a := a) (c := b) (k := 0) (es := r.entries) (x := 0) (m := 0) (by omega) (by omega)
      unfold openN at this
      omega
theorem sameB_self (a : List Int) : sameB a a = true := by
  have : beforeB a a = false := by
    induction a with
    | nil => rfl
    | cons x a ih => simp [beforeB, ih]
  simp [sameB, this]
end Go.Proofs.YtnbmmopjkkofoaaGreat
