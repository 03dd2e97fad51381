/-
  Walks by the rules of Base, printed by gen.py: the reference. No condition: no statement of the seat is proved here.
-/
import Derived.Test.YtnbmmopjkkofoaaW3
namespace Go.Proofs.Ytnbmmopjkkofoaa
open Go.RowKit
set_option maxRecDepth 20000
set_option linter.all false

def upd (l : List Int) (k : Nat) (x : Int) : List Int := l.set k (l.getD k 0 + x)
abbrev RSt := List Int × List Int
/-- An entry happens, if it can. -/
def refStep (e : Ent5) (st : RSt) : Option RSt :=
  bif (st.1.getD e.sheet.toNat 0 != e.frm) || ((e.kind == 2) && decide (st.2.getD (e.to.toNat * 4 + e.frm.toNat) 0 < 1)) then none
  else some (st.1.set e.sheet.toNat e.to, bif e.kind == 2 then upd (bif e.kind == 1 then upd st.2 (e.frm.toNat * 4 + e.to.toNat) 1 else st.2) (e.to.toNat * 4 + e.frm.toNat) (-1) else (bif e.kind == 1 then upd st.2 (e.frm.toNat * 4 + e.to.toNat) 1 else st.2))
def refDayF (day : Int) : List Ent5 → List Int → RSt → Option RSt
  | [], _, st => some st
  | e :: es, t :: ts, st => bif t != day then refDayF day es ts st else match refStep e st with
    | none => none
    | some st' => refDayF day es ts st'
  | _ :: _, [], st => some st
def splice (o : List Int) (k n : Nat) (l : List Int) : List Int := o.take k ++ l ++ o.drop (k + n)
def putDay (out : List Int) (day : Nat) (st : RSt) : List Int := splice (splice out (day * 4) 4 st.1) (40 + day * 16) 16 st.2
def refPlayF (r : Reg) (l : List Int) : Nat → Nat → List Int → RSt → List Int × Bool
  | 0, _, out, _ => (out, true)
  | m + 1, day, out, st => match refDayF day r.entries l st with
    | none => (out, false)
    | some st' => refPlayF r l m (day + 1) (putDay out day st') st'
def startA (r : Reg) (i : Nat) : List Int := r.start.take i ++ List.replicate (4 - i) 0
def refPlay (r : Reg) (l : List Int) : List Int × Bool := refPlayF r l 10 0 (List.replicate 200 0) (startA r r.start.length, List.replicate 16 0)
theorem zerosT (n : Nat) : (Value.agg (Array.replicate n (.int .i64 0))).cells.toList.map constTV = (List.replicate n 0).map intT := by simp [Value.cells, constTV]
theorem splice_len {o l : List Int} {k n : Nat} (h : k + n ≤ o.length) (hl : l.length = n) : (splice o k n l).length = o.length := by
  simp [splice, hl]
  omega
theorem splice_T {o l : List Int} {k n : Nat} : (o.map intT).take k ++ (TV.d (.agg (l.map intD))).cells ++ (o.map intT).drop (k + n) = (splice o k n l).map intT := by
  simp [splice, TV.cells, List.map_take, List.map_drop]
theorem splice_E {o l : List Int} {k k' n : Nat} (hk : k' = k) : (o.map intT).take k' ++ (TV.d (.agg (l.map intD))).cells ++ (o.map intT).drop (k' + n) = (splice o k n l).map intT := hk ▸ splice_T
theorem store_all {l : List Int} {cs : List TV} {n : Nat} (h : cs.length ≤ 0 + n) : cs.take 0 ++ (TV.d (.agg (l.map intD))).cells ++ cs.drop (0 + n) = l.map intT := by
  rw [List.drop_of_length_le h]
  simp [TV.cells]
theorem allD_all {l : List Int} {n : Nat} (h : l.length = n) : allD (((l.map intT).drop 0).take n) = some (l.map intD) := by
  rw [List.drop_zero, List.take_of_length_le (by simp [h])]
  exact allD_int l
theorem cells_len {l : List Int} {n : Nat} (h : l.length = n) : (TV.d (.agg (l.map intD))).cells.length = n := by simp [TV.cells, h]
theorem at2 {α β : Type} {l : List α} {f : α → β} {i m j : Nat} {x : α} (h : l[i * m + j]? = some x) : (l.map f)[0 + i * m + j * 1]? = some (f x) := by simp [h]
theorem set2 {α β : Type} {l : List α} {f : α → β} {i m j : Nat} {x : α} : (l.map f).set (0 + i * m + j * 1) (f x) = (l.set (i * m + j) x).map f := by simp [List.map_set]
theorem startA_set {r : Reg} {i : Nat} {x : Int} (h : r.start[i]? = some x) (hi : i < 4) : (startA r i).set i x = startA r (i + 1) := by
  have hlt := (List.getElem?_eq_some_iff.1 h).1
  unfold startA
  rw [List.set_append_right _ _ (by simp; omega), List.take_add_one, h, List.length_take, show i - min i r.start.length = 0 by omega, show 4 - i = (4 - (i + 1)) + 1 by omega, List.replicate_succ]
  simp
theorem startA_len {r : Reg} {i : Nat} (h : i ≤ r.start.length) (h4 : r.start.length ≤ 4) : (startA r i).length = 4 := by
  simp [startA]
  omega
theorem upd_len (l : List Int) (k : Nat) (x : Int) : (upd l k x).length = l.length := by simp [upd]
theorem upd_bd {c : List Int} {k : Nat} {x m : Int} (hc : ∀ y ∈ c, -m ≤ y ∧ y ≤ m) (h0 : 0 ≤ m) (hx : -1 ≤ x ∧ x ≤ 1) : ∀ y ∈ upd c k x, -(m + 1) ≤ y ∧ y ≤ m + 1 := bump_bd (h := (k : Int)) hc h0 hx
theorem sz83 : Sz Try.prog 83 4 := (by kernel_rfl : (Try.prog.info? 83).map (·.size) = some 4)
theorem sz84 : Sz Try.prog 84 40 := (by kernel_rfl : (Try.prog.info? 84).map (·.size) = some 40)
theorem sz85 : Sz Try.prog 85 16 := (by kernel_rfl : (Try.prog.info? 85).map (·.size) = some 16)
theorem sz86 : Sz Try.prog 86 160 := (by kernel_rfl : (Try.prog.info? 86).map (·.size) = some 160)
theorem sz88 : Sz Try.prog 88 200 := (by kernel_rfl : (Try.prog.info? 88).map (·.size) = some 200)
theorem zr85 : (Try.prog.info? 85).map (·.zero) = some (some (.agg (Array.replicate 16 (.int .i64 0)))) := by kernel_rfl
theorem zr88 : (Try.prog.info? 88).map (·.zero) = some (some (.agg (Array.replicate 200 (.int .i64 0)))) := by kernel_rfl
theorem elt38 : ElT Try.prog 38 88 200 1600 := elt_of Try.underlying38 (z := (.agg (Array.replicate 200 (.int .i64 0)))) (by kernel_rfl) rfl (by decide)

theorem refPlay_ok (r : Reg) (l : List Int) (v : Valid r) (hl5 : l.length = r.entries.length) : PureAt Try.prog 48 [regD r, ints l] (.tup [.agg ((refPlay r l).1.map intD), .bool (refPlay r l).2]) := by
  refine PureAt.of_awp Try.func48 rfl (by kernel_rfl) (Nat.le_of_ble_eq_true rfl) fun Γ hn hl => ?_
  have he6 := v.e6; have hs4 := v.s4; have hh4 := v.h4
  refine awp_seq ?_
  refine awp_region ?_
  refine stepW (s_box 2 rfl rfl rfl (nb hn rfl) rfl rfl) fun b2 => ?_
  refine stepW (s_alloc 4 rfl rfl rfl (nb hn rfl) zr88 (zerosT 200) (by kernel_rfl)) fun b4 => ?_
  refine sq rfl rfl hn rfl (q_assign rfl rfl) ?_
  refine run_nil ?_
  refine aend_then ?_
  refine awp_seq ?_
  refine awp_region ?_
  refine stepW (s_alloc 6 rfl rfl rfl (nb hn rfl) zr88 (zerosT 200) (by kernel_rfl)) fun b6 => ?_
  refine run_nil ?_
  refine aend_then ?_
  refine awp_seq ?_
  refine awp_region ?_
  refine stepW (s_alloc 7 rfl rfl rfl (nb hn rfl) zr83 (show _ = (startA r 0).map intT from by simp [startA, Value.cells, constTV]) rfl) fun b7 => ?_
  refine run_nil ?_
  refine aend_then ?_
  refine awp_seq ?_
  refine awp_region ?_
  refine stepW (s_alloc 8 rfl rfl rfl (nb hn rfl) zr85 (zerosT 16) (by kernel_rfl)) fun b8 => ?_
  refine run_nil ?_
  refine aend_then ?_
  refine awp_seq ?_
  refine awp_seq ?_
  refine awp_region ?_
  refine sq rfl rfl hn rfl (q_assign rfl rfl) ?_
  refine run_nil ?_
  refine aend_then ?_
  refine awp_block ?_
  refine awp_loop_on (ι := { i : Nat // i ≤ r.start.length }) (fun x => (9, true, .d (.int .i64 (x.1 : Int))) :: anys [13, 14, 15, 16, 17, 20, 21, 22, 23, 24, 25, 26, 18, 19]) (fun x => [(7, .box b7 83 ((startA r x.1).map intT))]) (fun x => r.start.length - x.1) ⟨0, by simp⟩ ⟨.inl rfl, holdT_anys _⟩ ⟨.inl rfl, trivial⟩ ?_
  rintro ⟨i, hi⟩
  dsimp only
  refine awp_seq ?_
  refine awp_seq ?_
  refine awp_region ?_
  refine sq rfl rfl hn rfl (q_move rfl rfl) ?_
  refine sq rfl rfl hn rfl (q_fieldAddr rfl rfl Try.underlying26 rfl sz22) ?_
  refine sq rfl rfl hn rfl (q_load rfl rfl (id := 2) rfl Try.underlying22 rfl rfl sees0) ?_
  refine sq rfl rfl hn rfl (q_len rfl rfl Try.underlying22) ?_
  refine sq rfl rfl hn rfl (q_lss rfl rfl rfl) ?_
  refine run_nil ?_
  refine aend_then ?_
  refine awp_cond rfl (fun hb0 => ?_) (fun hb0 => ?_)
  · try simp only [decide_eq_true_eq, decide_eq_false_iff_not, Bool.and_eq_true, Bool.or_eq_true, Bool.and_eq_false_iff, Bool.or_eq_false_iff, Bool.not_eq_true', Bool.not_eq_false', beq_iff_eq, bne_iff_ne, ne_eq, beq_eq_false_iff_ne, bne_eq_false_iff_eq, Int.not_lt, Int.not_le] at hb0
    have hlt : i < r.start.length := by simpa using hb0
    obtain ⟨x0, hx0⟩ := ex_get hlt
    refine awp_skip ?_
    refine aend_then ?_
    refine awp_seq ?_
    refine awp_block ?_
    refine awp_region ?_
    refine sq rfl rfl hn rfl (q_move rfl rfl) ?_
    refine sq rfl rfl hn rfl (q_fieldAddr rfl rfl Try.underlying26 rfl sz22) ?_
    refine sq rfl rfl hn rfl (q_load rfl rfl (id := 2) rfl Try.underlying22 rfl rfl sees0) ?_
    refine sq rfl rfl hn rfl (q_move rfl rfl) ?_
    refine sq rfl rfl hn rfl (q_index rfl rfl rfl Try.underlying22 sz3 rfl (mget hx0)) ?_
    refine sq rfl rfl hn rfl (q_loadp rfl rfl Try.underlying3 rfl seesF0) ?_
    refine sq rfl rfl hn rfl (q_indexA rfl rfl rfl Try.underlying83 sz3 rfl (by omega)) ?_
    refine stepW (s_store1 rfl rfl rfl rfl rfl rfl (id := 7) rfl sz3 (by have := startA_len hi hs4; simp; omega) (set1.trans (congrArg _ (startA_set hx0 (by omega)))) trivial) fun _ => ?_
    refine run_nil ?_
    refine aend_block ?_
    refine aend_then ?_
    refine awp_region ?_
    refine sq rfl rfl hn rfl (q_move rfl rfl) ?_
    refine sq rfl rfl hn rfl (q_add rfl rfl rfl (r := ((i + 1 : Nat) : Int)) (i64w (by omega) (by omega))) ?_
    refine sq rfl rfl hn rfl (q_assign rfl rfl) ?_
    refine run_nil ?_
    exact aend_round_on ⟨i + 1, by omega⟩ ⟨.inl rfl, holdT_anys _⟩ ⟨.inl rfl, trivial⟩ (by simp only; omega) (by repeat (first | exact kr _ | refine kc rfl ?_)) (by repeat (first | exact kr _ | refine kc rfl ?_))
  · try simp only [decide_eq_true_eq, decide_eq_false_iff_not, Bool.and_eq_true, Bool.or_eq_true, Bool.and_eq_false_iff, Bool.or_eq_false_iff, Bool.not_eq_true', Bool.not_eq_false', beq_iff_eq, bne_iff_ne, ne_eq, beq_eq_false_iff_ne, bne_eq_false_iff_eq, Int.not_lt, Int.not_le] at hb0
    have hie : i = r.start.length := by simp only [List.length_map] at hb0; omega
    subst hie
    have hst4 := startA_len hi hs4
    refine awp_exit ?_
    refine aend_then_exit ?_
    refine aend_then_exit ?_
    refine aend_block_exit ?_
    refine aend_then ?_
    refine awp_seq ?_
    refine awp_seq ?_
    refine awp_region ?_
    refine sq rfl rfl hn rfl (q_assign rfl rfl) ?_
    refine run_nil ?_
    refine aend_then ?_
    refine awp_block ?_
    refine awp_loop_on (ι := { x : Nat × List Int × List Int × List Int // x.1 ≤ 10 ∧ x.2.1.length = 4 ∧ x.2.2.1.length = 16 ∧ x.2.2.2.length = 200 ∧ (∀ z ∈ x.2.2.1, -((x.1 : Int) * 6) ≤ z ∧ z ≤ (x.1 : Int) * 6) ∧ refPlay r l = refPlayF r l (10 - x.1) x.1 x.2.2.2 (x.2.1, x.2.2.1) }) (fun x => (10, true, .d (.int .i64 (x.1.1 : Int))) :: anys [27, 28, 11, 31, 32, 33, 34, 35, 38, 39, 40, 41, 42, 12, 43, 44, 45, 46, 47, 48, 49, 50, 51, 52, 53, 54, 55, 56, 57, 58, 59, 60, 61, 62, 63, 64, 65, 66, 67, 68, 69, 70, 72, 73, 74, 75, 76, 77, 78, 79, 80, 81, 82, 83, 84, 85, 86, 87, 88, 89, 90, 91, 92, 93, 94, 95, 96, 97, 98, 99, 100, 101, 102, 36, 37, 103, 104, 105, 106, 107, 108, 109, 110, 29, 30]) (fun x => (7, .box b7 83 (x.1.2.1.map intT)) :: (8, .box b8 85 (x.1.2.2.1.map intT)) :: (6, .box b6 88 (x.1.2.2.2.map intT)) :: gones [12]) (fun x => 10 - x.1.1) ⟨(0, startA r r.start.length, List.replicate 16 0, List.replicate 200 0), by simp, hst4, by simp, by simp, by simp, rfl⟩ ⟨.inl rfl, holdT_anys _⟩ ⟨.inl rfl, .inl rfl, .inl rfl, holdR_gones _⟩ ?_
    rintro ⟨⟨day, now0, open0, out⟩, hday, hn0, ho0, hout, hbd0, hF⟩
    dsimp only
    dsimp only at hday hn0 ho0 hout hbd0 hF
    refine awp_seq ?_
    refine awp_seq ?_
    refine awp_region ?_
    refine sq rfl rfl hn rfl (q_move rfl rfl) ?_
    refine sq rfl rfl hn rfl (q_lss rfl rfl rfl) ?_
    refine run_nil ?_
    refine aend_then ?_
    refine awp_cond rfl (fun hb1 => ?_) (fun hb1 => ?_)
    · try simp only [decide_eq_true_eq, decide_eq_false_iff_not, Bool.and_eq_true, Bool.or_eq_true, Bool.and_eq_false_iff, Bool.or_eq_false_iff, Bool.not_eq_true', Bool.not_eq_false', beq_iff_eq, bne_iff_ne, ne_eq, beq_eq_false_iff_ne, bne_eq_false_iff_eq, Int.not_lt, Int.not_le] at hb1
      have hd10 : day < 10 := by omega
      refine awp_skip ?_
      refine aend_then ?_
      refine awp_seq ?_
      refine awp_block ?_
      refine awp_seq ?_
      refine awp_seq ?_
      refine awp_region ?_
      refine sq rfl rfl hn rfl (q_assign rfl rfl) ?_
      refine run_nil ?_
      refine aend_then ?_
      refine awp_block ?_
      refine awp_loop_on (ι := { y : Nat × List Int × List Int // y.1 ≤ r.entries.length ∧ y.2.1.length = 4 ∧ y.2.2.length = 16 ∧ (∀ z ∈ y.2.2, -((day : Int) * 6 + y.1) ≤ z ∧ z ≤ (day : Int) * 6 + y.1) ∧ refDayF day r.entries l (now0, open0) = refDayF day (r.entries.drop y.1) (l.drop y.1) (y.2.1, y.2.2) }) (fun y => (11, true, .d (.int .i64 (y.1.1 : Int))) :: anys [31, 32, 33, 34, 35, 38, 39, 40, 41, 42, 12, 43, 44, 45, 46, 47, 48, 49, 50, 51, 52, 53, 54, 55, 56, 57, 58, 59, 60, 61, 62, 63, 64, 65, 66, 67, 68, 69, 70, 72, 73, 74, 75, 76, 77, 78, 79, 80, 81, 82, 83, 84, 85, 86, 87, 88, 89, 90, 91, 92, 93, 94, 95, 96, 97, 98, 99, 100, 101, 102, 36, 37]) (fun y => (7, .box b7 83 (y.1.2.1.map intT)) :: (8, .box b8 85 (y.1.2.2.map intT)) :: gones [12]) (fun y => r.entries.length - y.1.1) ⟨(0, now0, open0), by simp, hn0, ho0, by simpa using hbd0, by simp⟩ ⟨.inl rfl, holdT_anys _⟩ ⟨.inl rfl, .inl rfl, holdR_gones _⟩ ?_
      rintro ⟨⟨i, now, open_⟩, hi2, hnl, hol, hbd, hG⟩
      dsimp only
      dsimp only at hi2 hnl hol hbd hG
      refine awp_seq ?_
      refine awp_seq ?_
      refine awp_region ?_
      refine sq rfl rfl hn rfl (q_move rfl rfl) ?_
      refine sq rfl rfl hn rfl (q_fieldAddr rfl rfl Try.underlying26 rfl sz23) ?_
      refine sq rfl rfl hn rfl (q_load rfl rfl (id := 2) rfl Try.underlying23 rfl rfl sees0) ?_
      refine sq rfl rfl hn rfl (q_len rfl rfl Try.underlying23) ?_
      refine sq rfl rfl hn rfl (q_lss rfl rfl rfl) ?_
      refine run_nil ?_
      refine aend_then ?_
      refine awp_cond rfl (fun hb2 => ?_) (fun hb2 => ?_)
      · try simp only [decide_eq_true_eq, decide_eq_false_iff_not, Bool.and_eq_true, Bool.or_eq_true, Bool.and_eq_false_iff, Bool.or_eq_false_iff, Bool.not_eq_true', Bool.not_eq_false', beq_iff_eq, bne_iff_ne, ne_eq, beq_eq_false_iff_ne, bne_eq_false_iff_eq, Int.not_lt, Int.not_le] at hb2
        have hlt2 : i < r.entries.length := by simpa using hb2
        obtain ⟨e, he⟩ := ex_get hlt2
        obtain ⟨t, ht⟩ := ex_get (l := l) (i := i) (by omega)
        have hen := v.en e (List.mem_of_getElem? he)
        rw [drop_of he, drop_of ht] at hG; simp only [refDayF] at hG
        have hsh : e.sheet.toNat < 4 := by omega
        have hfr : e.frm.toNat < 4 := by omega
        have hto : e.to.toNat < 4 := by omega
        have q1 := hbd _ (getD_mem (l := open_) (k := e.frm.toNat * 4 + e.to.toNat) (by omega))
        have q2 := hbd _ (getD_mem (l := open_) (k := e.to.toNat * 4 + e.frm.toNat) (by omega))
        have hu1 := upd_bd (k := e.frm.toNat * 4 + e.to.toNat) (x := 1) hbd (by omega) (by omega)
        have hu2 := upd_bd (k := e.to.toNat * 4 + e.frm.toNat) (x := -1) hbd (by omega) (by omega)
        refine awp_skip ?_
        refine aend_then ?_
        refine awp_seq ?_
        refine awp_block ?_
        refine awp_seq ?_
        refine awp_region ?_
        refine sq rfl rfl hn rfl (q_fieldAddr rfl rfl Try.underlying26 rfl sz23) ?_
        refine sq rfl rfl hn rfl (q_load rfl rfl (id := 2) rfl Try.underlying23 rfl rfl sees0) ?_
        refine sq rfl rfl hn rfl (q_move rfl rfl) ?_
        refine sq rfl rfl hn rfl (q_index rfl rfl rfl Try.underlying23 sz67 rfl (mget he)) ?_
        refine sq rfl rfl hn rfl (q_loadpA rfl rfl Try.underlying67 rfl sz67 rfl rfl seesF0) ?_
        refine stepW (s_alloc 12 rfl rfl rfl (nb hn rfl) zr67 rfl rfl) fun b12 => ?_
        refine stepW (s_store rfl rfl rfl rfl rfl rfl (id := 12) rfl sz67 rfl (Nat.le_of_ble_eq_true rfl) rfl trivial) fun _ => ?_
        refine run_nil ?_
        refine aend_then ?_
        refine awp_seq ?_
        refine awp_seq ?_
        refine awp_region ?_
        refine sq rfl rfl hn rfl (q_move rfl rfl) ?_
        refine sq rfl rfl hn rfl (q_move rfl rfl) ?_
        refine sq rfl rfl hn rfl (q_index rfl rfl rfl Try.underlying22 sz3 rfl (mget ht)) ?_
        refine sq rfl rfl hn rfl (q_loadp rfl rfl Try.underlying3 rfl seesF0) ?_
        refine sq rfl rfl hn rfl (q_move rfl rfl) ?_
        refine sq rfl rfl hn rfl (q_neq rfl rfl rfl) ?_
        refine run_nil ?_
        refine aend_then ?_
        refine awp_cond rfl (fun hb3 => ?_) (fun hb3 => ?_)
        · skip
          refine awp_exit ?_
          refine aend_then_exit ?_
          refine aend_block_exit ?_
          refine aend_then ?_
          refine awp_region ?_
          refine sq rfl rfl hn rfl (q_move rfl rfl) ?_
          refine sq rfl rfl hn rfl (q_add rfl rfl rfl (r := ((i + 1 : Nat) : Int)) (i64w (by omega) (by omega))) ?_
          refine sq rfl rfl hn rfl (q_assign rfl rfl) ?_
          refine run_nil ?_
          exact aend_round_on ⟨(i + 1, now, open_), by simp only; omega, hnl, hol, fun z hz => by have := hbd z hz; simp only; omega, by rw [hG, hb3]; rfl⟩ ⟨.inl rfl, holdT_anys _⟩ ⟨.inl rfl, .inl rfl, holdR_gones _⟩ (by simp only; omega) (by repeat (first | exact kr _ | refine kc rfl ?_)) (by repeat (first | exact kr _ | refine kc rfl ?_))
        · skip
          refine awp_skip ?_
          refine aend_then ?_
          refine awp_seq ?_
          refine awp_seq ?_
          refine d_start (W := fun b => b ≠ b7 ∧ b ≠ b8 ∧ b ≠ b12) fmo ?_
          refine d1q (i := 0) rfl (by kernel_rfl) (fun _ _ _ _ h => h) rfl rfl hn rfl (q_fieldAddr rfl rfl Try.underlying67 rfl sz3) ?_
          refine d1q (i := 1) rfl (by kernel_rfl) (fun _ _ _ _ h => h) rfl rfl hn rfl (q_load rfl rfl (id := 12) rfl Try.underlying3 rfl rfl (seesA (by simp))) ?_
          refine d1q (i := 2) rfl (by kernel_rfl) (fun _ _ _ _ h => h) rfl rfl hn rfl (q_indexA (i := e.sheet.toNat) rfl rfl rfl Try.underlying83 sz3 (by omega) (by omega)) ?_
          refine d1q (i := 3) rfl (by kernel_rfl) (fun _ _ _ _ h => h) rfl rfl hn rfl (q_load rfl rfl (id := 7) rfl Try.underlying3 rfl (at1 (getD_some (by omega))) (seesA (by simp))) ?_
          refine d1q (i := 4) rfl (by kernel_rfl) (fun _ _ _ _ h => h) rfl rfl hn rfl (q_fieldAddr rfl rfl Try.underlying67 rfl sz3) ?_
          refine d1q (i := 5) rfl (by kernel_rfl) (fun _ _ _ _ h => h) rfl rfl hn rfl (q_load rfl rfl (id := 12) rfl Try.underlying3 rfl rfl (seesA (by simp))) ?_
          refine d1q (i := 6) rfl (by kernel_rfl) (fun _ _ _ _ h => h) rfl rfl hn rfl (q_neq rfl rfl rfl) ?_
          refine d1q (i := 7) rfl (by kernel_rfl) (fun _ _ _ _ h => h) rfl rfl hn rfl (q_move rfl rfl) ?_
          refine d1g (i := 8) [] rfl (by kernel_rfl) (fun _ _ _ _ h => h) (guard_some rfl rfl rfl) rfl hn rfl (fun hc => trivial) (fun hc => q_fieldAddr rfl rfl Try.underlying67 rfl sz3) ?_
          refine d1g (i := 9) [(57, _)] rfl (by kernel_rfl) (fun _ _ _ _ h => h) (guard_some rfl rfl rfl) rfl hn rfl (fun hc => ⟨⟨_, rfl, hc⟩, trivial⟩) (fun hc => q_load rfl rfl (id := 12) rfl Try.underlying3 rfl rfl (seesA (by simp))) ?_
          refine d1g (i := 10) [(58, _)] rfl (by kernel_rfl) (fun _ _ _ _ h => h) (guard_some rfl rfl rfl) rfl hn rfl (fun hc => ⟨⟨_, rfl, hc⟩, trivial⟩) (fun hc => q_eql rfl rfl rfl) ?_
          refine d1g (i := 11) [(59, _)] rfl (by kernel_rfl) (fun _ _ _ _ h => h) (guard_some rfl rfl rfl) rfl hn rfl (fun hc => ⟨⟨_, rfl, hc⟩, trivial⟩) (fun hc => q_move rfl rfl) ?_
          refine d1g (i := 12) [] rfl (by kernel_rfl) (fun _ _ _ _ h => h) (guard_some rfl rfl rfl) rfl hn rfl (fun hc => trivial) (fun hc => q_fieldAddr rfl rfl Try.underlying67 rfl sz3) ?_
          refine d1g (i := 13) [(61, _)] rfl (by kernel_rfl) (fun _ _ _ _ h => h) (guard_some rfl rfl rfl) rfl hn rfl (fun hc => ⟨⟨_, rfl, hc⟩, trivial⟩) (fun hc => q_load rfl rfl (id := 12) rfl Try.underlying3 rfl rfl (seesA (by simp))) ?_
          refine d1g (i := 14) [] rfl (by kernel_rfl) (fun _ _ _ _ h => h) (guard_some rfl rfl rfl) rfl hn rfl (fun hc => trivial) (fun hc => q_fieldAddr rfl rfl Try.underlying67 rfl sz3) ?_
          refine d1g (i := 15) [(63, _)] rfl (by kernel_rfl) (fun _ _ _ _ h => h) (guard_some rfl rfl rfl) rfl hn rfl (fun hc => ⟨⟨_, rfl, hc⟩, trivial⟩) (fun hc => q_load rfl rfl (id := 12) rfl Try.underlying3 rfl rfl (seesA (by simp))) ?_
          refine d1g (i := 16) [(62, _)] rfl (by kernel_rfl) (fun _ _ _ _ h => h) (guard_some rfl rfl rfl) rfl hn rfl (fun hc => ⟨⟨_, rfl, hc⟩, trivial⟩) (fun hc => q_indexA (i := e.to.toNat) rfl rfl rfl Try.underlying85 sz83 (by omega) (by omega)) ?_
          refine d1g (i := 17) [(65, _), (64, _)] rfl (by kernel_rfl) (fun _ _ _ _ h => h) (guard_some rfl rfl rfl) rfl hn rfl (fun hc => ⟨⟨_, rfl, hc⟩, ⟨_, rfl, hc⟩, trivial⟩) (fun hc => q_indexA (i := e.frm.toNat) rfl rfl rfl Try.underlying83 sz3 (by omega) (by omega)) ?_
          refine d1g (i := 18) [(66, _)] rfl (by kernel_rfl) (fun _ _ _ _ h => h) (guard_some rfl rfl rfl) rfl hn rfl (fun hc => ⟨⟨_, rfl, hc⟩, trivial⟩) (fun hc => q_load rfl rfl (id := 8) rfl Try.underlying3 rfl (at2 (getD_some (by omega))) (seesA (by simp))) ?_
          refine d1g (i := 19) [(67, _)] rfl (by kernel_rfl) (fun _ _ _ _ h => h) (guard_some rfl rfl rfl) rfl hn rfl (fun hc => ⟨⟨_, rfl, hc⟩, trivial⟩) (fun hc => q_lss rfl rfl rfl) ?_
          refine d1g (i := 20) [(60, _)] rfl (by kernel_rfl) (fun _ _ _ _ h => h) (guard_some rfl rfl rfl) rfl hn rfl (fun hc => ⟨⟨_, rfl, hc⟩, trivial⟩) (fun hc => q_and rfl rfl rfl (by simp_all)) ?_
          refine d1q (i := 21) rfl (by kernel_rfl) (fun _ _ _ _ h => h) rfl rfl hn rfl (q_or rfl rfl rfl (by simp_all)) ?_
          refine d1_of_d2 ?_
          refine d2_done (by kernel_rfl) ?_
          refine aend_then ?_
          refine awp_cond rfl (fun hb4 => ?_) (fun hb4 => ?_)
          · skip
            refine awp_seq ?_
            refine awp_region ?_
            refine sq rfl rfl hn rfl (q_loadAd rfl rfl (id := 6) rfl Try.underlying88 rfl sz88 (allD_all hout) (by simp [hout]) sees0) ?_
            refine stepW (s_store rfl rfl rfl rfl rfl rfl (id := 4) rfl sz88 (cells_len hout) (Nat.le_of_ble_eq_true rfl) (store_all (by simp)) trivial) fun _ => ?_
            refine sq rfl rfl hn rfl (q_assign rfl rfl) ?_
            refine run_nil ?_
            refine aend_then ?_
            refine awp_ret ?_
            refine aend_then_ret ?_
            refine aend_block_ret ?_
            refine aend_then_ret ?_
            refine aend_then_ret ?_
            refine aend_block_ret ?_
            refine aend_then_ret ?_
            refine aend_block_ret ?_
            refine aend_then_ret ?_
            refine aend_then_ret ?_
            refine aend_block_ret ?_
            refine aend_then_ret ?_
            refine ret_eq (ret_2 (.inl rfl) hl rfl (.cellA rfl (id := 4) rfl Try.underlying88 rfl sz88 (allD_all hout) (by simp [hout])) (.tmp rfl)) ?_
            rw [show refPlay r l = (out, false) from by rw [hF, show 10 - day = (10 - (day + 1)) + 1 by omega]; simp only [refPlayF]; rw [hG, hb3]; simp only [cond_false, refStep, hb4, cond_true]]
          · skip
            refine awp_skip ?_
            refine aend_then ?_
            refine awp_seq ?_
            refine awp_region ?_
            refine sq rfl rfl hn rfl (q_fieldAddr rfl rfl Try.underlying67 rfl sz3) ?_
            refine sq rfl rfl hn rfl (q_load rfl rfl (id := 12) rfl Try.underlying3 rfl rfl sees0) ?_
            refine sq rfl rfl hn rfl (q_fieldAddr rfl rfl Try.underlying67 rfl sz3) ?_
            refine sq rfl rfl hn rfl (q_load rfl rfl (id := 12) rfl Try.underlying3 rfl rfl sees0) ?_
            refine sq rfl rfl hn rfl (q_indexA (i := e.sheet.toNat) rfl rfl rfl Try.underlying83 sz3 (by omega) (by omega)) ?_
            refine stepW (s_store1 rfl rfl rfl rfl rfl rfl (id := 7) rfl sz3 (by simp; omega) set1 trivial) fun _ => ?_
            refine run_nil ?_
            refine aend_then ?_
            refine awp_seq ?_
            refine awp_seq ?_
            refine awp_region ?_
            refine sq rfl rfl hn rfl (q_fieldAddr rfl rfl Try.underlying67 rfl sz3) ?_
            refine sq rfl rfl hn rfl (q_load rfl rfl (id := 12) rfl Try.underlying3 rfl rfl sees0) ?_
            refine sq rfl rfl hn rfl (q_eql rfl rfl rfl) ?_
            refine run_nil ?_
            refine aend_then ?_
            refine awp_cond rfl (fun hb5 => ?_) (fun hb5 => ?_)
            · skip
              refine d_start (W := fun b => b ≠ b12) fmo ?_
              refine d1q (i := 0) rfl (by kernel_rfl) (fun _ _ _ _ h => h) rfl rfl hn rfl (q_fieldAddr rfl rfl Try.underlying67 rfl sz3) ?_
              refine d1q (i := 1) rfl (by kernel_rfl) (fun _ _ _ _ h => h) rfl rfl hn rfl (q_load rfl rfl (id := 12) rfl Try.underlying3 rfl rfl (seesA (by simp))) ?_
              refine d1q (i := 2) rfl (by kernel_rfl) (fun _ _ _ _ h => h) rfl rfl hn rfl (q_fieldAddr rfl rfl Try.underlying67 rfl sz3) ?_
              refine d1q (i := 3) rfl (by kernel_rfl) (fun _ _ _ _ h => h) rfl rfl hn rfl (q_load rfl rfl (id := 12) rfl Try.underlying3 rfl rfl (seesA (by simp))) ?_
              refine d1q (i := 4) rfl (by kernel_rfl) (fun _ _ _ _ h => h) rfl rfl hn rfl (q_indexA (i := e.frm.toNat) rfl rfl rfl Try.underlying85 sz83 (by omega) (by omega)) ?_
              refine d1q (i := 5) rfl (by kernel_rfl) (fun _ _ _ _ h => h) rfl rfl hn rfl (q_indexA (i := e.to.toNat) rfl rfl rfl Try.underlying83 sz3 (by omega) (by omega)) ?_
              refine d1q (i := 8) rfl (by kernel_rfl) (fun _ _ _ _ h => h) rfl rfl hn rfl (q_indexA (i := e.frm.toNat) rfl rfl rfl Try.underlying85 sz83 (by omega) (by omega)) ?_
              refine d1_of_d2 ?_
              refine d2_one (i := 6) (by kernel_rfl) rfl (quiet_wg _ [] (guard_none rfl) rfl (nb hn rfl) (fun _ => trivial) (fun _ => q_load rfl rfl (id := 8) rfl Try.underlying3 rfl (at2 (getD_some (by omega))) sees0)) fun _ => ?_
              refine d2_of_d1 ?_
              refine d1q (i := 7) rfl (by kernel_rfl) (fun _ _ _ _ h => h) rfl rfl hn rfl (q_add rfl rfl rfl (i64w (by omega) rfl)) ?_
              refine d1q (i := 9) rfl (by kernel_rfl) (fun _ _ _ _ h => h) rfl rfl hn rfl (q_indexA (i := e.to.toNat) rfl rfl rfl Try.underlying83 sz3 (by omega) (by omega)) ?_
              refine d1_of_d2 ?_
              refine g_ne_d2 (i := 8) (j := 12) rfl rfl rfl (fun hne8_12 => ?_)
              refine d2_one (i := 10) (by kernel_rfl) rfl (s_store1 rfl rfl rfl rfl rfl rfl (id := 8) rfl sz3 (by simp; omega) (show _ = (upd open_ (e.frm.toNat * 4 + e.to.toNat) 1).map intT from set2) (fun e => hne8_12 _ rfl (congrArg some e.symm))) fun _ => ?_
              refine d2_of_d1 ?_
              refine d1_of_d2 ?_
              refine d2_done (by kernel_rfl) ?_
              refine aend_then ?_
              refine awp_seq ?_
              refine awp_region ?_
              refine sq rfl rfl hn rfl (q_fieldAddr rfl rfl Try.underlying67 rfl sz3) ?_
              refine sq rfl rfl hn rfl (q_load rfl rfl (id := 12) rfl Try.underlying3 rfl rfl sees0) ?_
              refine sq rfl rfl hn rfl (q_eql rfl rfl rfl) ?_
              refine run_nil ?_
              refine aend_then ?_
              refine awp_cond rfl (fun hb6 => ?_) (fun hb6 => ?_)
              · skip
                exfalso; simp at hb5 hb6; omega
              · skip
                refine awp_skip ?_
                refine aend_block ?_
                refine aend_then ?_
                refine awp_region ?_
                refine sq rfl rfl hn rfl (q_move rfl rfl) ?_
                refine sq rfl rfl hn rfl (q_add rfl rfl rfl (r := ((i + 1 : Nat) : Int)) (i64w (by omega) (by omega))) ?_
                refine sq rfl rfl hn rfl (q_assign rfl rfl) ?_
                refine run_nil ?_
                exact aend_round_on ⟨(i + 1, now.set e.sheet.toNat e.to, upd open_ (e.frm.toNat * 4 + e.to.toNat) 1), by simp only; omega, by simp [hnl], by rw [upd_len]; exact hol, fun z hz => by have := hu1 z hz; simp only; omega, by rw [hG, hb3]; simp only [cond_false, refStep, hb4]; simp only [cond_false, cond_true, hb5, hb6]⟩ ⟨.inl rfl, holdT_anys _⟩ ⟨.inl rfl, .inl rfl, holdR_gones _⟩ (by simp only; omega) (by repeat (first | exact kr _ | refine kc rfl ?_)) (by repeat (first | exact kr _ | refine kc rfl ?_))
            · skip
              refine awp_skip ?_
              refine aend_then ?_
              refine awp_seq ?_
              refine awp_region ?_
              refine sq rfl rfl hn rfl (q_fieldAddr rfl rfl Try.underlying67 rfl sz3) ?_
              refine sq rfl rfl hn rfl (q_load rfl rfl (id := 12) rfl Try.underlying3 rfl rfl sees0) ?_
              refine sq rfl rfl hn rfl (q_eql rfl rfl rfl) ?_
              refine run_nil ?_
              refine aend_then ?_
              refine awp_cond rfl (fun hb7 => ?_) (fun hb7 => ?_)
              · skip
                refine d_start (W := fun b => b ≠ b12) fmo ?_
                refine d1q (i := 0) rfl (by kernel_rfl) (fun _ _ _ _ h => h) rfl rfl hn rfl (q_fieldAddr rfl rfl Try.underlying67 rfl sz3) ?_
                refine d1q (i := 1) rfl (by kernel_rfl) (fun _ _ _ _ h => h) rfl rfl hn rfl (q_load rfl rfl (id := 12) rfl Try.underlying3 rfl rfl (seesA (by simp))) ?_
                refine d1q (i := 2) rfl (by kernel_rfl) (fun _ _ _ _ h => h) rfl rfl hn rfl (q_fieldAddr rfl rfl Try.underlying67 rfl sz3) ?_
                refine d1q (i := 3) rfl (by kernel_rfl) (fun _ _ _ _ h => h) rfl rfl hn rfl (q_load rfl rfl (id := 12) rfl Try.underlying3 rfl rfl (seesA (by simp))) ?_
                refine d1q (i := 4) rfl (by kernel_rfl) (fun _ _ _ _ h => h) rfl rfl hn rfl (q_indexA (i := e.to.toNat) rfl rfl rfl Try.underlying85 sz83 (by omega) (by omega)) ?_
                refine d1q (i := 5) rfl (by kernel_rfl) (fun _ _ _ _ h => h) rfl rfl hn rfl (q_indexA (i := e.frm.toNat) rfl rfl rfl Try.underlying83 sz3 (by omega) (by omega)) ?_
                refine d1q (i := 8) rfl (by kernel_rfl) (fun _ _ _ _ h => h) rfl rfl hn rfl (q_indexA (i := e.to.toNat) rfl rfl rfl Try.underlying85 sz83 (by omega) (by omega)) ?_
                refine d1_of_d2 ?_
                refine d2_one (i := 6) (by kernel_rfl) rfl (quiet_wg _ [] (guard_none rfl) rfl (nb hn rfl) (fun _ => trivial) (fun _ => q_load rfl rfl (id := 8) rfl Try.underlying3 rfl (at2 (getD_some (by omega))) sees0)) fun _ => ?_
                refine d2_of_d1 ?_
                refine d1q (i := 7) rfl (by kernel_rfl) (fun _ _ _ _ h => h) rfl rfl hn rfl (q_sub rfl rfl rfl (r := open_.getD (e.to.toNat * 4 + e.frm.toNat) 0 + (-1)) (i64w (by omega) (by omega))) ?_
                refine d1q (i := 9) rfl (by kernel_rfl) (fun _ _ _ _ h => h) rfl rfl hn rfl (q_indexA (i := e.frm.toNat) rfl rfl rfl Try.underlying83 sz3 (by omega) (by omega)) ?_
                refine d1_of_d2 ?_
                refine g_ne_d2 (i := 8) (j := 12) rfl rfl rfl (fun hne8_12 => ?_)
                refine d2_one (i := 10) (by kernel_rfl) rfl (s_store1 rfl rfl rfl rfl rfl rfl (id := 8) rfl sz3 (by simp; omega) (show _ = (upd open_ (e.to.toNat * 4 + e.frm.toNat) (-1)).map intT from set2) (fun e => hne8_12 _ rfl (congrArg some e.symm))) fun _ => ?_
                refine d2_of_d1 ?_
                refine d1_of_d2 ?_
                refine d2_done (by kernel_rfl) ?_
                refine aend_block ?_
                refine aend_then ?_
                refine awp_region ?_
                refine sq rfl rfl hn rfl (q_move rfl rfl) ?_
                refine sq rfl rfl hn rfl (q_add rfl rfl rfl (r := ((i + 1 : Nat) : Int)) (i64w (by omega) (by omega))) ?_
                refine sq rfl rfl hn rfl (q_assign rfl rfl) ?_
                refine run_nil ?_
                exact aend_round_on ⟨(i + 1, now.set e.sheet.toNat e.to, upd open_ (e.to.toNat * 4 + e.frm.toNat) (-1)), by simp only; omega, by simp [hnl], by rw [upd_len]; exact hol, fun z hz => by have := hu2 z hz; simp only; omega, by rw [hG, hb3]; simp only [cond_false, refStep, hb4]; simp only [cond_false, cond_true, hb5, hb7]⟩ ⟨.inl rfl, holdT_anys _⟩ ⟨.inl rfl, .inl rfl, holdR_gones _⟩ (by simp only; omega) (by repeat (first | exact kr _ | refine kc rfl ?_)) (by repeat (first | exact kr _ | refine kc rfl ?_))
              · skip
                refine awp_skip ?_
                refine aend_block ?_
                refine aend_then ?_
                refine awp_region ?_
                refine sq rfl rfl hn rfl (q_move rfl rfl) ?_
                refine sq rfl rfl hn rfl (q_add rfl rfl rfl (r := ((i + 1 : Nat) : Int)) (i64w (by omega) (by omega))) ?_
                refine sq rfl rfl hn rfl (q_assign rfl rfl) ?_
                refine run_nil ?_
                exact aend_round_on ⟨(i + 1, now.set e.sheet.toNat e.to, open_), by simp only; omega, by simp [hnl], hol, fun z hz => by have := hbd z hz; simp only; omega, by rw [hG, hb3]; simp only [cond_false, refStep, hb4]; simp only [cond_false, cond_true, hb5, hb7]⟩ ⟨.inl rfl, holdT_anys _⟩ ⟨.inl rfl, .inl rfl, holdR_gones _⟩ (by simp only; omega) (by repeat (first | exact kr _ | refine kc rfl ?_)) (by repeat (first | exact kr _ | refine kc rfl ?_))
      · try simp only [decide_eq_true_eq, decide_eq_false_iff_not, Bool.and_eq_true, Bool.or_eq_true, Bool.and_eq_false_iff, Bool.or_eq_false_iff, Bool.not_eq_true', Bool.not_eq_false', beq_iff_eq, bne_iff_ne, ne_eq, beq_eq_false_iff_ne, bne_eq_false_iff_eq, Int.not_lt, Int.not_le] at hb2
        have hie : i = r.entries.length := by simp only [List.length_map] at hb2; omega
        have hres : refDayF day r.entries l (now0, open0) = some (now, open_) := by rw [hG, hie, List.drop_length]; rfl
        have hbd : ∀ z ∈ open_, -((day : Int) * 6 + 6) ≤ z ∧ z ≤ (day : Int) * 6 + 6 := fun z hz => by have := hbd z hz; omega
        refine awp_exit ?_
        refine aend_then_exit ?_
        refine aend_then_exit ?_
        refine aend_block_exit ?_
        refine aend_then ?_
        refine d_start (W := fun b => b ≠ b7 ∧ b ≠ b8) fmo ?_
        refine d1q (i := 0) rfl (by kernel_rfl) (fun _ _ _ _ h => h) rfl rfl hn rfl (q_move rfl rfl) ?_
        refine d1q (i := 1) rfl (by kernel_rfl) (fun _ _ _ _ h => h) rfl rfl hn rfl (q_move rfl rfl) ?_
        refine d1q (i := 2) rfl (by kernel_rfl) (fun _ _ _ _ h => h) rfl rfl hn rfl (q_loadAd rfl rfl (id := 7) rfl Try.underlying83 rfl sz83 (allD_all hnl) (by simp [hnl]) (seesA (by simp))) ?_
        refine d1q (i := 3) rfl (by kernel_rfl) (fun _ _ _ _ h => h) rfl rfl hn rfl (q_loadAd rfl rfl (id := 8) rfl Try.underlying85 rfl sz85 (allD_all hol) (by simp [hol]) (seesA (by simp))) ?_
        refine d1q (i := 4) rfl (by kernel_rfl) (fun _ _ _ _ h => h) rfl rfl hn rfl (q_fieldAddr rfl rfl Try.underlying88 rfl sz84) ?_
        refine d1q (i := 5) rfl (by kernel_rfl) (fun _ _ _ _ h => h) rfl rfl hn rfl (q_indexA rfl rfl rfl Try.underlying84 sz83 rfl (by omega)) ?_
        refine d1q (i := 7) rfl (by kernel_rfl) (fun _ _ _ _ h => h) rfl rfl hn rfl (q_fieldAddr rfl rfl Try.underlying88 rfl sz86) ?_
        refine d1_of_d2 ?_
        refine g_ne_d2 (i := 6) (j := 7) rfl rfl rfl (fun hne6_7 => ?_)
        refine g_ne_d2 (i := 6) (j := 8) rfl rfl rfl (fun hne6_8 => ?_)
        refine d2_one (i := 6) (by kernel_rfl) rfl (s_store rfl rfl rfl rfl rfl rfl (id := 6) rfl sz83 (cells_len hnl) (by simp; omega) (show _ = (splice out (day * 4) 4 now).map intT from splice_E (by show 0 + 0 + day * 4 = day * 4; omega)) ⟨fun e => hne6_7 _ rfl (congrArg some e.symm), fun e => hne6_8 _ rfl (congrArg some e.symm)⟩) fun _ => ?_
        refine d2_of_d1 ?_
        refine d1q (i := 8) rfl (by kernel_rfl) (fun _ _ _ _ h => h) rfl rfl hn rfl (q_indexA rfl rfl rfl Try.underlying86 sz85 rfl (by omega)) ?_
        refine d1_of_d2 ?_
        refine g_ne_d2 (i := 6) (j := 7) rfl rfl rfl (fun hne6_7 => ?_)
        refine g_ne_d2 (i := 6) (j := 8) rfl rfl rfl (fun hne6_8 => ?_)
        refine d2_one (i := 9) (by kernel_rfl) rfl (s_store rfl rfl rfl rfl rfl rfl (id := 6) rfl sz85 (cells_len hol) (by simp [splice_len (o := out) (k := day * 4) (n := 4) (by omega) hnl]; omega) (show _ = (putDay out day (now, open_)).map intT from splice_E (by show 0 + 40 + day * 16 = 40 + day * 16; omega)) ⟨fun e => hne6_7 _ rfl (congrArg some e.symm), fun e => hne6_8 _ rfl (congrArg some e.symm)⟩) fun _ => ?_
        refine d2_of_d1 ?_
        refine d1_of_d2 ?_
        refine d2_done (by kernel_rfl) ?_
        refine aend_block ?_
        refine aend_then ?_
        refine awp_region ?_
        refine sq rfl rfl hn rfl (q_move rfl rfl) ?_
        refine sq rfl rfl hn rfl (q_add rfl rfl rfl (r := ((day + 1 : Nat) : Int)) (i64w (by omega) (by omega))) ?_
        refine sq rfl rfl hn rfl (q_assign rfl rfl) ?_
        refine run_nil ?_
        exact aend_round_on ⟨(day + 1, now, open_, putDay out day (now, open_)), by simp only; omega, hnl, hol, by simp only [putDay]; rw [splice_len (by rw [splice_len (by omega) hnl]; omega) hol, splice_len (by omega) hnl, hout], fun z hz => by have := hbd z hz; simp only; omega, by rw [hF, show 10 - day = (10 - (day + 1)) + 1 by omega]; simp only [refPlayF, hres]⟩ ⟨.inl rfl, holdT_anys _⟩ ⟨.inl rfl, .inl rfl, .inl rfl, holdR_gones _⟩ (by simp only; omega) (by repeat (first | exact kr _ | refine kc rfl ?_)) (by repeat (first | exact kr _ | refine kc rfl ?_))
    · try simp only [decide_eq_true_eq, decide_eq_false_iff_not, Bool.and_eq_true, Bool.or_eq_true, Bool.and_eq_false_iff, Bool.or_eq_false_iff, Bool.not_eq_true', Bool.not_eq_false', beq_iff_eq, bne_iff_ne, ne_eq, beq_eq_false_iff_ne, bne_eq_false_iff_eq, Int.not_lt, Int.not_le] at hb1
      have hde : day = 10 := by omega
      subst hde
      have hfin : refPlay r l = (out, true) := hF
      refine awp_exit ?_
      refine aend_then_exit ?_
      refine aend_then_exit ?_
      refine aend_block_exit ?_
      refine aend_then ?_
      refine awp_seq ?_
      refine awp_region ?_
      refine sq rfl rfl hn rfl (q_loadAd rfl rfl (id := 6) rfl Try.underlying88 rfl sz88 (allD_all hout) (by simp [hout]) sees0) ?_
      refine stepW (s_store rfl rfl rfl rfl rfl rfl (id := 4) rfl sz88 (cells_len hout) (Nat.le_of_ble_eq_true rfl) (store_all (by simp)) trivial) fun _ => ?_
      refine sq rfl rfl hn rfl (q_assign rfl rfl) ?_
      refine run_nil ?_
      refine aend_then ?_
      refine awp_ret ?_
      refine ret_eq (ret_2 (.inl rfl) hl rfl (.cellA rfl (id := 4) rfl Try.underlying88 rfl sz88 (allD_all hout) (by simp [hout])) (.tmp rfl)) ?_
      rw [hfin]


def houseAt (o : List Int) (day s : Nat) : Int := o.getD (day * 4 + s) 0
def openAt (o : List Int) (day a b : Nat) : Int := o.getD (40 + day * 16 + a * 4 + b) 0
theorem refStep_len' {e : Ent5} {st st' : RSt} (h : refStep e st = some st') : st'.1.length = st.1.length ∧ st'.2.length = st.2.length := by
  unfold refStep at h
  cases hc : ((st.1.getD e.sheet.toNat 0 != e.frm) || ((e.kind == 2) && decide (st.2.getD (e.to.toNat * 4 + e.frm.toNat) 0 < 1))) with
  | true => rw [hc] at h; cases h
  | false =>
    rw [hc] at h
    simp only [cond_false, Option.some.injEq] at h
    subst h
    refine ⟨by simp, ?_⟩
    cases e.kind == 2 <;> cases e.kind == 1 <;> simp [upd_len]
theorem refDayF_len {day : Int} : ∀ {es : List Ent5} {ts : List Int} {st st' : RSt}, refDayF day es ts st = some st' → st'.1.length = st.1.length ∧ st'.2.length = st.2.length
  | [], _, st, st', h => by simp only [refDayF, Option.some.injEq] at h; subst h; exact ⟨rfl, rfl⟩
  | e :: es, [], st, st', h => by simp only [refDayF, Option.some.injEq] at h; subst h; exact ⟨rfl, rfl⟩
  | e :: es, t :: ts, st, st', h => by
    simp only [refDayF] at h
    cases hb : (t != day) with
    | true => rw [hb] at h; exact refDayF_len h
    | false =>
      rw [hb] at h
      simp only [cond_false] at h
      cases hs : refStep e st with
      | none => simp [hs] at h
      | some st2 =>
        rw [hs] at h
        have h1 := refStep_len' hs
        have h2 := refDayF_len h
        exact ⟨h2.1.trans h1.1, h2.2.trans h1.2⟩
theorem putDay_len {out : List Int} {day : Nat} {st : RSt} (hd : day < 10) (ho : out.length = 200) (h1 : st.1.length = 4) (h2 : st.2.length = 16) : (putDay out day st).length = 200 := by
  unfold putDay
  rw [splice_len (by rw [splice_len (by omega) h1]; omega) h2, splice_len (by omega) h1, ho]
theorem refPlayF_len {r : Reg} {l : List Int} : ∀ {m day : Nat} {out : List Int} {st : RSt}, day + m = 10 → out.length = 200 → st.1.length = 4 → st.2.length = 16 → (refPlayF r l m day out st).1.length = 200
  | 0, _, _, _, _, h, _, _ => h
  | m + 1, day, out, st, hm, h, h1, h2 => by
    simp only [refPlayF]
    cases hd : refDayF day r.entries l st with
    | none => exact h
    | some st' =>
      have hl := refDayF_len hd
      exact refPlayF_len (by omega) (putDay_len (by omega) h (hl.1.trans h1) (hl.2.trans h2)) (hl.1.trans h1) (hl.2.trans h2)
theorem refPlay_len {r : Reg} (v : Valid r) (l : List Int) : (refPlay r l).1.length = 200 := refPlayF_len rfl (by simp) (startA_len (Nat.le_refl _) v.s4) (by simp)
def sightOK (o : List Int) (s : Sight5) : Bool := houseAt o s.day.toNat s.sheet.toNat == s.house
def isTruthB (r : Reg) (l : List Int) : Bool := datedF r.entries l && ((refPlay r l).2 && r.sights.all (sightOK (refPlay r l).1))
theorem at0 {α β : Type} {l : List α} {f : α → β} {k k' : Nat} {x : α} (hk : k = k') (h : l[k']? = some x) : (l.map f)[k]? = some (f x) := by subst hk; simp [h]
theorem IsTruth_ok (r : Reg) (l : List Int) (v : Valid r) : PureAt Try.prog 46 [regD r, ints l] (.bool (isTruthB r l)) := by
  refine PureAt.of_awp Try.func46 rfl (by kernel_rfl) (Nat.le_of_ble_eq_true rfl) fun Γ hn hl => ?_
  have hg4 := v.g4; have hs4 := v.s4
  refine awp_seq ?_
  refine awp_region ?_
  refine stepW (s_box 2 rfl rfl rfl (nb hn rfl) rfl rfl) fun b2 => ?_
  refine sq rfl rfl hn rfl (q_assign rfl rfl) ?_
  refine run_nil ?_
  refine aend_then ?_
  refine awp_seq ?_
  refine awp_seq ?_
  refine awp_region ?_
  refine sq rfl rfl hn rfl (q_loadAd rfl rfl (id := 2) rfl Try.underlying26 rfl sz26 rfl rfl sees0) ?_
  refine sq rfl rfl hn rfl (q_move rfl rfl) ?_
  refine stepW (s_call [] (fun _ => IsDated_ok _ _) rfl (guard_none rfl) rfl (nb hn rfl) (fun _ => trivial) rfl rfl (.refl _)) fun _ => ?_
  refine sq rfl rfl hn rfl (q_not rfl rfl) ?_
  refine run_nil ?_
  refine aend_then ?_
  refine awp_cond rfl (fun hb0 => ?_) (fun hb0 => ?_)
  · skip
    refine awp_seq ?_
    refine awp_region ?_
    refine sq rfl rfl hn rfl (q_assign rfl rfl) ?_
    refine run_nil ?_
    refine aend_then ?_
    refine awp_ret ?_
    refine aend_then_ret ?_
    refine ret_eq (ret_1 (.inl rfl) hl rfl (.tmp rfl)) ?_
    rw [show isTruthB r l = false from by simp only [isTruthB, notT hb0, Bool.false_and]]
  · skip
    have hdt := notF hb0
    have hl5 := datedF_len hdt
    have hout := refPlay_len v l
    generalize hrp : refPlay r l = rp at hout
    refine awp_skip ?_
    refine aend_then ?_
    refine awp_seq ?_
    refine awp_region ?_
    refine sq rfl rfl hn rfl (q_loadAd rfl rfl (id := 2) rfl Try.underlying26 rfl sz26 rfl rfl sees0) ?_
    refine sq rfl rfl hn rfl (q_move rfl rfl) ?_
    refine stepW (s_call [] (fun _ => hrp ▸ refPlay_ok r l v hl5) rfl (guard_none rfl) rfl (nb hn rfl) (fun _ => trivial) rfl rfl (.refl _)) fun _ => ?_
    refine sq rfl rfl hn rfl (q_move rfl rfl) ?_
    refine sq rfl rfl hn rfl (q_extractd rfl rfl rfl) ?_
    refine sq rfl rfl hn rfl (q_extractd rfl rfl rfl) ?_
    refine stepW (s_alloc 5 rfl rfl rfl (nb hn rfl) zr88 (zerosT 200) (by kernel_rfl)) fun b5 => ?_
    refine stepW (s_store rfl rfl rfl rfl rfl rfl (id := 5) rfl sz88 (cells_len hout) (Nat.le_of_ble_eq_true rfl) (store_all (by simp)) trivial) fun _ => ?_
    refine sq rfl rfl hn rfl (q_assign rfl rfl) ?_
    refine run_nil ?_
    refine aend_then ?_
    refine awp_seq ?_
    refine awp_seq ?_
    refine awp_region ?_
    refine sq rfl rfl hn rfl (q_assign rfl rfl) ?_
    refine run_nil ?_
    refine aend_then ?_
    refine awp_block ?_
    refine awp_loop_on (ι := { x : Nat × Bool // x.1 ≤ r.sights.length ∧ (rp.2 && r.sights.all (sightOK rp.1)) = (x.2 && (r.sights.drop x.1).all (sightOK rp.1)) }) (fun x => (7, true, .d (.int .i64 (x.1.1 : Int))) :: (6, true, .d (.bool x.1.2)) :: anys [19, 20, 21, 22, 23, 26, 27, 28, 29, 30, 8, 31, 32, 33, 34, 35, 36, 37, 38, 39, 40, 41, 42, 43, 44, 24, 25]) (fun x => gones [8]) (fun x => r.sights.length - x.1.1) ⟨(0, rp.2), by simp⟩ ⟨.inl rfl, .inl rfl, holdT_anys _⟩ (holdR_gones _) ?_
    rintro ⟨⟨i, b⟩, hi, hF⟩
    dsimp only
    dsimp only at hi hF
    refine awp_seq ?_
    refine awp_seq ?_
    refine awp_region ?_
    refine sq rfl rfl hn rfl (q_move rfl rfl) ?_
    refine sq rfl rfl hn rfl (q_fieldAddr rfl rfl Try.underlying26 rfl sz24) ?_
    refine sq rfl rfl hn rfl (q_load rfl rfl (id := 2) rfl Try.underlying24 rfl rfl sees0) ?_
    refine sq rfl rfl hn rfl (q_len rfl rfl Try.underlying24) ?_
    refine sq rfl rfl hn rfl (q_lss rfl rfl rfl) ?_
    refine run_nil ?_
    refine aend_then ?_
    refine awp_cond rfl (fun hb1 => ?_) (fun hb1 => ?_)
    · try simp only [decide_eq_true_eq, decide_eq_false_iff_not, Bool.and_eq_true, Bool.or_eq_true, Bool.and_eq_false_iff, Bool.or_eq_false_iff, Bool.not_eq_true', Bool.not_eq_false', beq_iff_eq, bne_iff_ne, ne_eq, beq_eq_false_iff_ne, bne_eq_false_iff_eq, Int.not_lt, Int.not_le] at hb1
      have hlt : i < r.sights.length := by simpa using hb1
      obtain ⟨s, hs⟩ := ex_get hlt
      have hsi := v.si s (List.mem_of_getElem? hs)
      rw [drop_of hs] at hF; simp only [List.all_cons] at hF
      refine awp_skip ?_
      refine aend_then ?_
      refine awp_seq ?_
      refine awp_block ?_
      refine awp_seq ?_
      refine awp_region ?_
      refine sq rfl rfl hn rfl (q_fieldAddr rfl rfl Try.underlying26 rfl sz24) ?_
      refine sq rfl rfl hn rfl (q_load rfl rfl (id := 2) rfl Try.underlying24 rfl rfl sees0) ?_
      refine sq rfl rfl hn rfl (q_move rfl rfl) ?_
      refine sq rfl rfl hn rfl (q_index rfl rfl rfl Try.underlying24 sz59 rfl (mget hs)) ?_
      refine sq rfl rfl hn rfl (q_loadpA rfl rfl Try.underlying59 rfl sz59 rfl rfl seesF0) ?_
      refine stepW (s_alloc 8 rfl rfl rfl (nb hn rfl) zr59 rfl rfl) fun b8 => ?_
      refine stepW (s_store rfl rfl rfl rfl rfl rfl (id := 8) rfl sz59 rfl (Nat.le_of_ble_eq_true rfl) rfl trivial) fun _ => ?_
      refine run_nil ?_
      refine aend_then ?_
      refine d_start (W := fun b => b ≠ b5 ∧ b ≠ b8) fmo ?_
      refine d1q (i := 0) rfl (by kernel_rfl) (fun _ _ _ _ h => h) rfl rfl hn rfl (q_move rfl rfl) ?_
      refine d1q (i := 1) rfl (by kernel_rfl) (fun _ _ _ _ h => h) rfl rfl hn rfl (q_move rfl rfl) ?_
      refine d1g (i := 2) [] rfl (by kernel_rfl) (fun _ _ _ _ h => h) (guard_some rfl rfl rfl) rfl hn rfl (fun hc => trivial) (fun hc => q_fieldAddr rfl rfl Try.underlying59 rfl sz3) ?_
      refine d1g (i := 3) [(33, _)] rfl (by kernel_rfl) (fun _ _ _ _ h => h) (guard_some rfl rfl rfl) rfl hn rfl (fun hc => ⟨⟨_, rfl, hc⟩, trivial⟩) (fun hc => q_load rfl rfl (id := 8) rfl Try.underlying3 rfl rfl (seesA (by simp))) ?_
      refine d1g (i := 4) [] rfl (by kernel_rfl) (fun _ _ _ _ h => h) (guard_some rfl rfl rfl) rfl hn rfl (fun hc => trivial) (fun hc => q_fieldAddr rfl rfl Try.underlying59 rfl sz3) ?_
      refine d1g (i := 5) [(35, _)] rfl (by kernel_rfl) (fun _ _ _ _ h => h) (guard_some rfl rfl rfl) rfl hn rfl (fun hc => ⟨⟨_, rfl, hc⟩, trivial⟩) (fun hc => q_load rfl rfl (id := 8) rfl Try.underlying3 rfl rfl (seesA (by simp))) ?_
      refine d1g (i := 6) [] rfl (by kernel_rfl) (fun _ _ _ _ h => h) (guard_some rfl rfl rfl) rfl hn rfl (fun hc => trivial) (fun hc => q_fieldAddr rfl rfl Try.underlying88 rfl sz84) ?_
      refine d1g (i := 7) [(37, _), (34, _)] rfl (by kernel_rfl) (fun _ _ _ _ h => h) (guard_some rfl rfl rfl) rfl hn rfl (fun hc => ⟨⟨_, rfl, hc⟩, ⟨_, rfl, hc⟩, trivial⟩) (fun hc => q_indexA (i := s.day.toNat) rfl rfl rfl Try.underlying84 sz83 (by omega) (by omega)) ?_
      refine d1g (i := 8) [(38, _), (36, _)] rfl (by kernel_rfl) (fun _ _ _ _ h => h) (guard_some rfl rfl rfl) rfl hn rfl (fun hc => ⟨⟨_, rfl, hc⟩, ⟨_, rfl, hc⟩, trivial⟩) (fun hc => q_indexA (i := s.sheet.toNat) rfl rfl rfl Try.underlying83 sz3 (by omega) (by omega)) ?_
      refine d1g (i := 9) [(39, _)] rfl (by kernel_rfl) (fun _ _ _ _ h => h) (guard_some rfl rfl rfl) rfl hn rfl (fun hc => ⟨⟨_, rfl, hc⟩, trivial⟩) (fun hc => q_load rfl rfl (id := 5) rfl Try.underlying3 rfl (at0 (by show 0 + 0 + s.day.toNat * 4 + s.sheet.toNat * 1 = s.day.toNat * 4 + s.sheet.toNat; omega) (getD_some (by omega))) (seesA (by simp))) ?_
      refine d1g (i := 10) [] rfl (by kernel_rfl) (fun _ _ _ _ h => h) (guard_some rfl rfl rfl) rfl hn rfl (fun hc => trivial) (fun hc => q_fieldAddr rfl rfl Try.underlying59 rfl sz3) ?_
      refine d1g (i := 11) [(41, _)] rfl (by kernel_rfl) (fun _ _ _ _ h => h) (guard_some rfl rfl rfl) rfl hn rfl (fun hc => ⟨⟨_, rfl, hc⟩, trivial⟩) (fun hc => q_load rfl rfl (id := 8) rfl Try.underlying3 rfl rfl (seesA (by simp))) ?_
      refine d1g (i := 12) [(40, _), (42, _)] rfl (by kernel_rfl) (fun _ _ _ _ h => h) (guard_some rfl rfl rfl) rfl hn rfl (fun hc => ⟨⟨_, rfl, hc⟩, ⟨_, rfl, hc⟩, trivial⟩) (fun hc => q_eql rfl rfl rfl) ?_
      refine d1q (i := 13) rfl (by kernel_rfl) (fun _ _ _ _ h => h) rfl rfl hn rfl (q_and rfl rfl rfl (by simp_all)) ?_
      refine d1q (i := 14) rfl (by kernel_rfl) (fun _ _ _ _ h => h) rfl rfl hn rfl (q_assign rfl rfl) ?_
      refine d1_of_d2 ?_
      refine d2_done (by kernel_rfl) ?_
      refine aend_block ?_
      refine aend_then ?_
      refine awp_region ?_
      refine sq rfl rfl hn rfl (q_move rfl rfl) ?_
      refine sq rfl rfl hn rfl (q_add rfl rfl rfl (r := ((i + 1 : Nat) : Int)) (i64w (by omega) (by omega))) ?_
      refine sq rfl rfl hn rfl (q_assign rfl rfl) ?_
      refine run_nil ?_
      exact aend_round_on ⟨(i + 1, b && sightOK rp.1 s), by simp only; omega, by simp only [hF, Bool.and_assoc]⟩ ⟨.inl rfl, .inl rfl, holdT_anys _⟩ (holdR_gones _) (by simp only; omega) (by repeat (first | exact kr _ | refine kc rfl ?_)) (by repeat (first | exact kr _ | refine kc rfl ?_))
    · try simp only [decide_eq_true_eq, decide_eq_false_iff_not, Bool.and_eq_true, Bool.or_eq_true, Bool.and_eq_false_iff, Bool.or_eq_false_iff, Bool.not_eq_true', Bool.not_eq_false', beq_iff_eq, bne_iff_ne, ne_eq, beq_eq_false_iff_ne, bne_eq_false_iff_eq, Int.not_lt, Int.not_le] at hb1
      refine awp_exit ?_
      refine aend_then_exit ?_
      refine aend_then_exit ?_
      refine aend_block_exit ?_
      refine aend_then ?_
      refine awp_seq ?_
      refine awp_region ?_
      refine sq rfl rfl hn rfl (q_move rfl rfl) ?_
      refine sq rfl rfl hn rfl (q_assign rfl rfl) ?_
      refine run_nil ?_
      refine aend_then ?_
      refine awp_ret ?_
      refine ret_eq (ret_1 (.inl rfl) hl rfl (.tmp rfl)) ?_
      have hie : i = r.sights.length := by simp only [List.length_map] at hb1; omega
      subst hie; rw [List.drop_length] at hF; simp only [List.all_nil, Bool.and_true] at hF; rw [isTruthB, hdt, hrp, hF, Bool.true_and]


def truthsF (r : Reg) (n : Nat) : List (List Int) := ((List.range n).map (nthL r.entries)).filter (isTruthB r)
/-- All truths. -/
def truths (r : Reg) : List (List Int) := truthsF r (manyN r.entries)
def daysOf (r : Reg) (t : List Int) : List Int := (refPlay r t).1
def allDays (r : Reg) : List (List Int) := (truths r).map (daysOf r)
theorem truthsF_t {r : Reg} {n : Nat} (h : isTruthB r (nthL r.entries n) = true) : truthsF r (n + 1) = truthsF r n ++ [nthL r.entries n] := by simp [truthsF, List.range_succ, List.filter_append, h]
theorem truthsF_f {r : Reg} {n : Nat} (h : isTruthB r (nthL r.entries n) = false) : truthsF r (n + 1) = truthsF r n := by simp [truthsF, List.range_succ, List.filter_append, h]
theorem truthsF_len {r : Reg} {n : Nat} : (truthsF r n).length ≤ n := by
  unfold truthsF
  refine Nat.le_trans (List.length_filter_le _ _) (by simp)
theorem fill_agg {n : Nat} {ds : List D} {zs : List TV} (hz : zs.length = n) (hd : ds.length = n) : fillTV (fun i => some (i * n, n)) zs [(0, .d (.agg ds))] = some (ds.map .d) := by
  have h1 : Nat.beq n n = true := Nat.beq_refl n
  have h2 : Nat.ble n n = true := by simp
  simp only [fillTV, TV.cells, List.length_map, hd, hz, TV.flat, Nat.zero_mul, Nat.zero_add, h1, h2]
  rw [List.drop_of_length_le (by omega)]
  simp
theorem chunk_one {n : Nat} {ds : List D} (hd : ds.length = n) : chunk n 1 ds = [ds] := by
  simp only [chunk]
  rw [List.take_of_length_le (by omega)]
theorem beq_len {n : Nat} {ds : List D} (hd : ds.length = n) : Nat.beq ds.length (1 * n) = true := by rw [hd, Nat.one_mul]; exact Nat.beq_refl n
@[reducible] def daysE (o : List Int) : List D := o.map intD
theorem All_ok (r : Reg) (v : Valid r) : PureAt Try.prog 20 [regD r] (.slice 200 ((allDays r).map daysE)) := by
  refine PureAt.of_awp Try.func20 rfl (by kernel_rfl) (Nat.le_of_ble_eq_true rfl) fun Γ hn hl => ?_
  have hmv := manyN_valid v
  refine awp_seq ?_
  refine awp_region ?_
  refine stepW (s_box 1 rfl rfl rfl (nb hn rfl) rfl rfl) fun b1 => ?_
  refine sq rfl rfl hn rfl (q_assign rfl rfl) ?_
  refine run_nil ?_
  refine aend_then ?_
  refine awp_seq ?_
  refine awp_region ?_
  refine sq rfl rfl hn rfl (q_assign rfl rfl) ?_
  refine run_nil ?_
  refine aend_then ?_
  refine awp_seq ?_
  refine awp_seq ?_
  refine gh_awp (g_nil (t := 3) (id := 3) 88 200 rfl (nb hn rfl)) ?_
  refine awp_region ?_
  refine sq rfl rfl hn rfl (q_assign rfl rfl) ?_
  refine run_nil ?_
  refine aend_then ?_
  refine awp_block ?_
  refine awp_loop_on (ι := { x : Nat × Value // x.1 ≤ manyN r.entries }) (fun x => (4, true, .d (.int .i64 (x.1.1 : Nat))) :: (3, true, .val x.1.2) :: anys [8, 9, 10, 11, 14, 15, 16, 5, 17, 18, 19, 21, 22, 23, 20, 24, 25, 6, 7, 26, 27, 28, 29, 12, 13]) (fun x => (3, .row x.1.2 88 200 (((truthsF r x.1.1).map (daysOf r)).map daysE)) :: gones [6]) (fun x => manyN r.entries - x.1.1) ⟨(0, .slice none 0 0), by simp⟩ ⟨.inl rfl, .inl rfl, holdT_anys _⟩ ⟨.inl rfl, holdR_gones _⟩ ?_
  rintro ⟨⟨n, vv⟩, hn5⟩
  dsimp only
  dsimp only at hn5
  have htl := truthsF_len (r := r) (n := n)
  refine awp_seq ?_
  refine awp_seq ?_
  refine awp_region ?_
  refine sq rfl rfl hn rfl (q_move rfl rfl) ?_
  refine sq rfl rfl hn rfl (q_loadAd rfl rfl (id := 1) rfl Try.underlying26 rfl sz26 rfl rfl sees0) ?_
  refine stepW (s_call [] (fun _ => Many_ok r v) rfl (guard_none rfl) rfl (nb hn rfl) (fun _ => trivial) rfl rfl (.refl _)) fun _ => ?_
  refine sq rfl rfl hn rfl (q_lss rfl rfl rfl) ?_
  refine run_nil ?_
  refine aend_then ?_
  refine awp_cond rfl (fun hb0 => ?_) (fun hb0 => ?_)
  · try simp only [decide_eq_true_eq, decide_eq_false_iff_not, Bool.and_eq_true, Bool.or_eq_true, Bool.and_eq_false_iff, Bool.or_eq_false_iff, Bool.not_eq_true', Bool.not_eq_false', beq_iff_eq, bne_iff_ne, ne_eq, beq_eq_false_iff_ne, bne_eq_false_iff_eq, Int.not_lt, Int.not_le] at hb0
    have hlt : n < manyN r.entries := by omega
    have hnl := refPlay_len v (nthL r.entries n)
    refine awp_skip ?_
    refine aend_then ?_
    refine awp_seq ?_
    refine awp_block ?_
    refine awp_seq ?_
    refine awp_region ?_
    refine sq rfl rfl hn rfl (q_loadAd rfl rfl (id := 1) rfl Try.underlying26 rfl sz26 rfl rfl sees0) ?_
    refine sq rfl rfl hn rfl (q_move rfl rfl) ?_
    refine stepW (s_call [] (fun _ => Nth_ok r n v (by omega)) rfl (guard_none rfl) rfl (nb hn rfl) (fun _ => trivial) rfl rfl (.refl _)) fun _ => ?_
    refine sq rfl rfl hn rfl (q_assign rfl rfl) ?_
    refine run_nil ?_
    refine aend_then ?_
    refine awp_seq ?_
    refine awp_region ?_
    refine sq rfl rfl hn rfl (q_loadAd rfl rfl (id := 1) rfl Try.underlying26 rfl sz26 rfl rfl sees0) ?_
    refine sq rfl rfl hn rfl (q_move rfl rfl) ?_
    refine stepW (s_call [] (fun _ => IsTruth_ok r _ v) rfl (guard_none rfl) rfl (nb hn rfl) (fun _ => trivial) rfl rfl (.refl _)) fun _ => ?_
    refine run_nil ?_
    refine aend_then ?_
    refine awp_cond rfl (fun hb1 => ?_) (fun hb1 => ?_)
    · skip
      have hl5 : (nthL r.entries n).length = r.entries.length := datedF_len (by unfold isTruthB at hb1; rw [Bool.and_eq_true] at hb1; exact hb1.1)
      refine awp_seq ?_
      refine awp_region ?_
      refine sq rfl rfl hn rfl (q_loadAd rfl rfl (id := 1) rfl Try.underlying26 rfl sz26 rfl rfl sees0) ?_
      refine sq rfl rfl hn rfl (q_move rfl rfl) ?_
      refine stepW (s_call [] (fun _ => refPlay_ok r _ v hl5) rfl (guard_none rfl) rfl (nb hn rfl) (fun _ => trivial) rfl rfl (.refl _)) fun _ => ?_
      refine sq rfl rfl hn rfl (q_move rfl rfl) ?_
      refine sq rfl rfl hn rfl (q_extractd rfl rfl rfl) ?_
      refine sq rfl rfl hn rfl (q_extractd rfl rfl rfl) ?_
      refine stepW (s_alloc 6 rfl rfl rfl (nb hn rfl) zr88 (zerosT 200) (by kernel_rfl)) fun b6 => ?_
      refine stepW (s_store rfl rfl rfl rfl rfl rfl (id := 6) rfl sz88 (cells_len hnl) (Nat.le_of_ble_eq_true rfl) (store_all (by simp)) trivial) fun _ => ?_
      refine sq rfl rfl hn rfl (q_assign rfl rfl) ?_
      refine run_nil ?_
      refine aend_then ?_
      refine awp_region ?_
      refine sq rfl rfl hn rfl (q_move rfl rfl) ?_
      refine sq rfl rfl hn rfl (q_loadAd rfl rfl (id := 6) rfl Try.underlying88 rfl sz88 (allD_all hnl) (by simp [hnl]) sees0) ?_
      refine stepW (s_buildSlice rfl rfl rfl (nb hn rfl) Try.underlying38 sz88 zr88 rfl rfl rfl rfl (by kernel_rfl) rfl (fill_agg (by kernel_rfl) (by simp [hnl])) (allD_d _) (beq_len (by simp [hnl])) (chunk_one (by simp [hnl]))) fun _ => ?_
      refine stepW (s_append (id := 3) rfl rfl rfl (nb hn rfl) elt38 trivial rfl rfl rfl (by simp; omega) (by simp; omega) (fun b hb => trivial)) fun v29 => ?_
      refine sq rfl rfl hn rfl (q_assign rfl rfl) ?_
      refine run_nil ?_
      refine aend_block ?_
      refine aend_then ?_
      refine awp_region ?_
      refine sq rfl rfl hn rfl (q_move rfl rfl) ?_
      refine sq rfl rfl hn rfl (q_add rfl rfl rfl (r := ((n + 1 : Nat) : Int)) (i64w (by omega) (by omega))) ?_
      refine sq rfl rfl hn rfl (q_assign rfl rfl) ?_
      refine run_nil ?_
      exact aend_round_on ⟨(n + 1, v29), by simp only; omega⟩ ⟨.inl rfl, .inl rfl, holdT_anys _⟩ ⟨.inl (by rw [truthsF_t hb1, List.map_append, List.map_append]; rfl), holdR_gones _⟩ (by simp only; omega) (by repeat (first | exact kr _ | refine kc rfl ?_)) (by repeat (first | exact kr _ | refine kc rfl ?_))
    · skip
      refine awp_skip ?_
      refine aend_block ?_
      refine aend_then ?_
      refine awp_region ?_
      refine sq rfl rfl hn rfl (q_move rfl rfl) ?_
      refine sq rfl rfl hn rfl (q_add rfl rfl rfl (r := ((n + 1 : Nat) : Int)) (i64w (by omega) (by omega))) ?_
      refine sq rfl rfl hn rfl (q_assign rfl rfl) ?_
      refine run_nil ?_
      exact aend_round_on ⟨(n + 1, vv), by simp only; omega⟩ ⟨.inl rfl, .inl rfl, holdT_anys _⟩ ⟨.inl (by rw [truthsF_f hb1]; rfl), holdR_gones _⟩ (by simp only; omega) (by repeat (first | exact kr _ | refine kc rfl ?_)) (by repeat (first | exact kr _ | refine kc rfl ?_))
  · try simp only [decide_eq_true_eq, decide_eq_false_iff_not, Bool.and_eq_true, Bool.or_eq_true, Bool.and_eq_false_iff, Bool.or_eq_false_iff, Bool.not_eq_true', Bool.not_eq_false', beq_iff_eq, bne_iff_ne, ne_eq, beq_eq_false_iff_ne, bne_eq_false_iff_eq, Int.not_lt, Int.not_le] at hb0
    have hne : n = manyN r.entries := by omega
    subst hne
    refine awp_exit ?_
    refine aend_then_exit ?_
    refine aend_then_exit ?_
    refine aend_block_exit ?_
    refine aend_then ?_
    refine awp_seq ?_
    refine awp_region ?_
    refine sq rfl rfl hn rfl (q_move rfl rfl) ?_
    refine sq rfl rfl hn rfl (q_assign rfl rfl) ?_
    refine run_nil ?_
    refine aend_then ?_
    refine awp_ret ?_
    refine gh_end (g_row (t := 2) (id := 3) rfl rfl) ?_
    exact ret_1 (.inl rfl) hl rfl (.tmp rfl)


theorem drop3 {o : List Int} {k i j : Nat} {x : Int} (h : o[k + i + j]? = some x) : ((((o.map intD).drop k).drop i).drop j) = intD x :: (o.map intD).drop (k + i + j + 1) := by
  rw [List.drop_drop, List.drop_drop, ← Nat.add_assoc]
  exact drop_of (mget h)
def refHolders (r : Reg) (all : List (List Int)) (s day : Nat) (h : Nat) : List Int := ((List.range h).filter fun (h : Nat) => all.any fun o => houseAt o day s == (h : Int)).map Int.ofNat
def refSurely (all : List (List Int)) (house : Int) (day n : Nat) : List Int := ((List.range n).filter fun s => all.all fun o => houseAt o day s == house).map Int.ofNat
theorem any_take {α : Type} {l : List α} {p : α → Bool} {i : Nat} {x : α} (h : l[i]? = some x) : (l.take (i + 1)).any p = ((l.take i).any p || p x) := by rw [List.take_add_one, h]; simp [List.any_append]
theorem all_take {α : Type} {l : List α} {p : α → Bool} {i : Nat} {x : α} (h : l[i]? = some x) : (l.take (i + 1)).all p = ((l.take i).all p && p x) := by rw [List.take_add_one, h]; simp [List.all_append]
theorem filter_t {p : Nat → Bool} {n : Nat} (h : p n = true) : ((List.range (n + 1)).filter p).map Int.ofNat = ((List.range n).filter p).map Int.ofNat ++ [(n : Int)] := by simp [List.range_succ, List.filter_append, h]
theorem filter_f {p : Nat → Bool} {n : Nat} (h : p n = false) : ((List.range (n + 1)).filter p).map Int.ofNat = ((List.range n).filter p).map Int.ofNat := by simp [List.range_succ, List.filter_append, h]
theorem filter_len {p : Nat → Bool} {n : Nat} : (((List.range n).filter p).map Int.ofNat).length ≤ n := by
  rw [List.length_map]
  exact Nat.le_trans (List.length_filter_le _ _) (by simp)
theorem fill_nat {x : Nat} {zs : List TV} (hz : zs.length = 1) : fillTV (fun i => some (i * 1, 1)) zs [(0, .d (.int .i64 (x : Nat)))] = some [.d (.int .i64 (x : Nat))] := fill_int hz
theorem refHolders_ok (r : Reg) (all : List (List Int)) (s day : Int) (v : Valid r) (hall : ∀ o ∈ all, o.length = 200) (hal : all.length ≤ 1000000) (hs : 0 ≤ s ∧ s < 4) (hd : 0 ≤ day ∧ day ≤ 9) : PureAt Try.prog 23 [regD r, .slice 200 (all.map daysE), .int .i64 s, .int .i64 day] (ints (refHolders r all s.toNat day.toNat r.houses.toNat)) := by
  refine PureAt.of_awp Try.func23 rfl (by kernel_rfl) (Nat.le_of_ble_eq_true rfl) fun Γ hn hl => ?_
  have hh4 := v.h4; have hh1 := v.h1
  refine awp_seq ?_
  refine awp_region ?_
  refine stepW (s_box 4 rfl rfl rfl (nb hn rfl) rfl rfl) fun b4 => ?_
  refine sq rfl rfl hn rfl (q_assign rfl rfl) ?_
  refine run_nil ?_
  refine aend_then ?_
  refine awp_seq ?_
  refine awp_region ?_
  refine sq rfl rfl hn rfl (q_assign rfl rfl) ?_
  refine run_nil ?_
  refine aend_then ?_
  refine awp_seq ?_
  refine awp_seq ?_
  refine gh_awp (g_nil (t := 9) (id := 9) 3 1 rfl (nb hn rfl)) ?_
  refine awp_region ?_
  refine sq rfl rfl hn rfl (q_assign rfl rfl) ?_
  refine run_nil ?_
  refine aend_then ?_
  refine awp_block ?_
  refine awp_loop_on (ι := { x : Nat × Value // x.1 ≤ r.houses.toNat }) (fun x => (10, true, .d (.int .i64 (x.1.1 : Nat))) :: (9, true, .val x.1.2) :: anys [13, 14, 15, 16, 11, 12, 19, 20, 21, 22, 25, 26, 27, 28, 29, 30, 31, 32, 33, 34, 35, 36, 37, 38, 23, 24, 39, 40, 41, 42, 43, 17, 18]) (fun x => [(9, .row x.1.2 3 1 ((refHolders r all s.toNat day.toNat x.1.1).map intE))]) (fun x => r.houses.toNat - x.1.1) ⟨(0, .slice none 0 0), by simp⟩ ⟨.inl rfl, .inl rfl, holdT_anys _⟩ ⟨.inl rfl, trivial⟩ ?_
  rintro ⟨⟨h, vv⟩, hh⟩
  dsimp only
  dsimp only at hh
  have hfl : (refHolders r all s.toNat day.toNat h).length ≤ h := filter_len
  refine awp_seq ?_
  refine awp_seq ?_
  refine awp_region ?_
  refine sq rfl rfl hn rfl (q_move rfl rfl) ?_
  refine sq rfl rfl hn rfl (q_fieldAddr rfl rfl Try.underlying26 rfl sz3) ?_
  refine sq rfl rfl hn rfl (q_load rfl rfl (id := 4) rfl Try.underlying3 rfl rfl sees0) ?_
  refine sq rfl rfl hn rfl (q_lss rfl rfl rfl) ?_
  refine run_nil ?_
  refine aend_then ?_
  refine awp_cond rfl (fun hb0 => ?_) (fun hb0 => ?_)
  · try simp only [decide_eq_true_eq, decide_eq_false_iff_not, Bool.and_eq_true, Bool.or_eq_true, Bool.and_eq_false_iff, Bool.or_eq_false_iff, Bool.not_eq_true', Bool.not_eq_false', beq_iff_eq, bne_iff_ne, ne_eq, beq_eq_false_iff_ne, bne_eq_false_iff_eq, Int.not_lt, Int.not_le] at hb0
    have hlt : h < r.houses.toNat := by omega
    refine awp_skip ?_
    refine aend_then ?_
    refine awp_seq ?_
    refine awp_block ?_
    refine awp_seq ?_
    refine awp_region ?_
    refine sq rfl rfl hn rfl (q_assign rfl rfl) ?_
    refine run_nil ?_
    refine aend_then ?_
    refine awp_seq ?_
    refine awp_seq ?_
    refine awp_region ?_
    refine sq rfl rfl hn rfl (q_assign rfl rfl) ?_
    refine run_nil ?_
    refine aend_then ?_
    refine awp_block ?_
    refine awp_loop_on (ι := { i : Nat // i ≤ all.length }) (fun y => (12, true, .d (.int .i64 (y.1 : Nat))) :: (11, true, .d (.bool ((all.take y.1).any fun o => houseAt o day.toNat s.toNat == (h : Int)))) :: anys [19, 20, 21, 22, 25, 26, 27, 28, 29, 30, 31, 32, 33, 34, 35, 36, 37, 38, 23, 24]) (fun y => []) (fun y => all.length - y.1) ⟨0, by simp⟩ ⟨.inl rfl, .inl rfl, holdT_anys _⟩ trivial ?_
    rintro ⟨i, hi⟩
    dsimp only
    refine awp_seq ?_
    refine awp_seq ?_
    refine awp_region ?_
    refine sq rfl rfl hn rfl (q_move rfl rfl) ?_
    refine sq rfl rfl hn rfl (q_move rfl rfl) ?_
    refine sq rfl rfl hn rfl (q_len rfl rfl Try.underlying38) ?_
    refine sq rfl rfl hn rfl (q_lss rfl rfl rfl) ?_
    refine run_nil ?_
    refine aend_then ?_
    refine awp_cond rfl (fun hb1 => ?_) (fun hb1 => ?_)
    · try simp only [decide_eq_true_eq, decide_eq_false_iff_not, Bool.and_eq_true, Bool.or_eq_true, Bool.and_eq_false_iff, Bool.or_eq_false_iff, Bool.not_eq_true', Bool.not_eq_false', beq_iff_eq, bne_iff_ne, ne_eq, beq_eq_false_iff_ne, bne_eq_false_iff_eq, Int.not_lt, Int.not_le] at hb1
      have hlt2 : i < all.length := by simpa using hb1
      obtain ⟨o, ho⟩ := ex_get hlt2
      have hol := hall o (List.mem_of_getElem? ho)
      refine awp_skip ?_
      refine aend_then ?_
      refine awp_seq ?_
      refine awp_block ?_
      refine awp_region ?_
      refine sq rfl rfl hn rfl (q_move rfl rfl) ?_
      refine sq rfl rfl hn rfl (q_move rfl rfl) ?_
      refine stepG [] (guard_some rfl rfl rfl) rfl (nb hn rfl) (fun hc => trivial) (fun hc => q_move rfl rfl) ?_
      refine stepG [] (guard_some rfl rfl rfl) rfl (nb hn rfl) (fun hc => trivial) (fun hc => q_move rfl rfl) ?_
      refine stepG [] (guard_some rfl rfl rfl) rfl (nb hn rfl) (fun hc => trivial) (fun hc => q_move rfl rfl) ?_
      refine stepG [] (guard_some rfl rfl rfl) rfl (nb hn rfl) (fun hc => trivial) (fun hc => q_move rfl rfl) ?_
      refine stepG [(27, _), (28, _)] (guard_some rfl rfl rfl) rfl (nb hn rfl) (fun hc => ⟨⟨_, rfl, hc⟩, ⟨_, rfl, hc⟩, trivial⟩) (fun hc => q_index rfl rfl rfl Try.underlying38 sz88 rfl (mget ho)) ?_
      refine stepG [(31, _)] (guard_some rfl rfl rfl) rfl (nb hn rfl) (fun hc => ⟨⟨_, rfl, hc⟩, trivial⟩) (fun hc => q_fieldAddrp rfl rfl Try.underlying88 rfl sz84 rfl) ?_
      refine stepG [(32, _), (29, _)] (guard_some rfl rfl rfl) rfl (nb hn rfl) (fun hc => ⟨⟨_, rfl, hc⟩, ⟨_, rfl, hc⟩, trivial⟩) (fun hc => q_indexP (i := day.toNat) rfl rfl rfl Try.underlying84 sz83 (by omega) (by omega) rfl) ?_
      refine stepG [(33, _), (30, _)] (guard_some rfl rfl rfl) rfl (nb hn rfl) (fun hc => ⟨⟨_, rfl, hc⟩, ⟨_, rfl, hc⟩, trivial⟩) (fun hc => q_indexP (i := s.toNat) rfl rfl rfl Try.underlying83 sz3 (by omega) (by omega) (drop3 (x := houseAt o day.toNat s.toNat) (by show o[0 + day.toNat * 4 + s.toNat * 1]? = _; rw [show 0 + day.toNat * 4 + s.toNat * 1 = day.toNat * 4 + s.toNat by omega]; exact getD_some (by omega)))) ?_
      refine stepG [(34, _)] (guard_some rfl rfl rfl) rfl (nb hn rfl) (fun hc => ⟨⟨_, rfl, hc⟩, trivial⟩) (fun hc => q_loadp rfl rfl Try.underlying3 rfl seesF0) ?_
      refine stepG [] (guard_some rfl rfl rfl) rfl (nb hn rfl) (fun hc => trivial) (fun hc => q_move rfl rfl) ?_
      refine stepG [(35, _), (36, _)] (guard_some rfl rfl rfl) rfl (nb hn rfl) (fun hc => ⟨⟨_, rfl, hc⟩, ⟨_, rfl, hc⟩, trivial⟩) (fun hc => q_eql rfl rfl rfl) ?_
      refine sq rfl rfl hn rfl (q_or rfl rfl rfl (by simp_all)) ?_
      refine sq rfl rfl hn rfl (q_assign rfl rfl) ?_
      refine run_nil ?_
      refine aend_block ?_
      refine aend_then ?_
      refine awp_region ?_
      refine sq rfl rfl hn rfl (q_move rfl rfl) ?_
      refine sq rfl rfl hn rfl (q_add rfl rfl rfl (r := ((i + 1 : Nat) : Int)) (i64w (by omega) (by omega))) ?_
      refine sq rfl rfl hn rfl (q_assign rfl rfl) ?_
      refine run_nil ?_
      exact aend_round_on ⟨i + 1, by omega⟩ ⟨.inl rfl, .inl (by rw [any_take ho]; rfl), holdT_anys _⟩ trivial (by simp only; omega) (by repeat (first | exact kr _ | refine kc rfl ?_)) (by repeat (first | exact kr _ | refine kc rfl ?_))
    · try simp only [decide_eq_true_eq, decide_eq_false_iff_not, Bool.and_eq_true, Bool.or_eq_true, Bool.and_eq_false_iff, Bool.or_eq_false_iff, Bool.not_eq_true', Bool.not_eq_false', beq_iff_eq, bne_iff_ne, ne_eq, beq_eq_false_iff_ne, bne_eq_false_iff_eq, Int.not_lt, Int.not_le] at hb1
      have hie : i = all.length := by simp only [List.length_map] at hb1; omega
      subst hie; rw [List.take_length]
      refine awp_exit ?_
      refine aend_then_exit ?_
      refine aend_then_exit ?_
      refine aend_block_exit ?_
      refine aend_then ?_
      refine awp_seq ?_
      refine awp_region ?_
      refine sq rfl rfl hn rfl (q_move rfl rfl) ?_
      refine run_nil ?_
      refine aend_then ?_
      refine awp_cond rfl (fun hb2 => ?_) (fun hb2 => ?_)
      · skip
        refine awp_region ?_
        refine sq rfl rfl hn rfl (q_move rfl rfl) ?_
        refine sq rfl rfl hn rfl (q_move rfl rfl) ?_
        refine stepW (s_buildSlice rfl rfl rfl (nb hn rfl) Try.underlying22 sz3 zr3 rfl rfl rfl (show _ = [.d (.int .i64 0)] from by kernel_rfl) (by kernel_rfl) rfl (fill_nat (by kernel_rfl)) rfl rfl rfl) fun _ => ?_
        refine stepW (s_append (id := 9) rfl rfl rfl (nb hn rfl) elt22 trivial rfl rfl rfl (by simp [chunk]; omega) (by simp [chunk]; omega) (fun b hb => trivial)) fun v43 => ?_
        refine sq rfl rfl hn rfl (q_assign rfl rfl) ?_
        refine run_nil ?_
        refine aend_block ?_
        refine aend_then ?_
        refine awp_region ?_
        refine sq rfl rfl hn rfl (q_move rfl rfl) ?_
        refine sq rfl rfl hn rfl (q_add rfl rfl rfl (r := ((h + 1 : Nat) : Int)) (i64w (by omega) (by omega))) ?_
        refine sq rfl rfl hn rfl (q_assign rfl rfl) ?_
        refine run_nil ?_
        exact aend_round_on ⟨(h + 1, v43), by simp only; omega⟩ ⟨.inl rfl, .inl rfl, holdT_anys _⟩ ⟨.inl (by unfold refHolders; rw [filter_t hb2, List.map_append]; rfl), trivial⟩ (by simp only; omega) (by repeat (first | exact kr _ | refine kc rfl ?_)) (by repeat (first | exact kr _ | refine kc rfl ?_))
      · skip
        refine awp_skip ?_
        refine aend_block ?_
        refine aend_then ?_
        refine awp_region ?_
        refine sq rfl rfl hn rfl (q_move rfl rfl) ?_
        refine sq rfl rfl hn rfl (q_add rfl rfl rfl (r := ((h + 1 : Nat) : Int)) (i64w (by omega) (by omega))) ?_
        refine sq rfl rfl hn rfl (q_assign rfl rfl) ?_
        refine run_nil ?_
        exact aend_round_on ⟨(h + 1, vv), by simp only; omega⟩ ⟨.inl rfl, .inl rfl, holdT_anys _⟩ ⟨.inl (by unfold refHolders; rw [filter_f hb2]; rfl), trivial⟩ (by simp only; omega) (by repeat (first | exact kr _ | refine kc rfl ?_)) (by repeat (first | exact kr _ | refine kc rfl ?_))
  · try simp only [decide_eq_true_eq, decide_eq_false_iff_not, Bool.and_eq_true, Bool.or_eq_true, Bool.and_eq_false_iff, Bool.or_eq_false_iff, Bool.not_eq_true', Bool.not_eq_false', beq_iff_eq, bne_iff_ne, ne_eq, beq_eq_false_iff_ne, bne_eq_false_iff_eq, Int.not_lt, Int.not_le] at hb0
    have hne : h = r.houses.toNat := by omega
    subst hne
    refine awp_exit ?_
    refine aend_then_exit ?_
    refine aend_then_exit ?_
    refine aend_block_exit ?_
    refine aend_then ?_
    refine awp_seq ?_
    refine awp_region ?_
    refine sq rfl rfl hn rfl (q_move rfl rfl) ?_
    refine sq rfl rfl hn rfl (q_assign rfl rfl) ?_
    refine run_nil ?_
    refine aend_then ?_
    refine awp_ret ?_
    refine gh_end (g_row (t := 8) (id := 9) rfl rfl) ?_
    exact ret_1 (.inl rfl) hl rfl (.tmp rfl)

theorem refSurely_ok (r : Reg) (all : List (List Int)) (house day : Int) (v : Valid r) (hall : ∀ o ∈ all, o.length = 200) (hal : all.length ≤ 1000000) (hd : 0 ≤ day ∧ day ≤ 9) : PureAt Try.prog 24 [regD r, .slice 200 (all.map daysE), .int .i64 house, .int .i64 day] (ints (refSurely all house day.toNat r.start.length)) := by
  refine PureAt.of_awp Try.func24 rfl (by kernel_rfl) (Nat.le_of_ble_eq_true rfl) fun Γ hn hl => ?_
  have hs4 := v.s4
  refine awp_seq ?_
  refine awp_region ?_
  refine stepW (s_box 4 rfl rfl rfl (nb hn rfl) rfl rfl) fun b4 => ?_
  refine sq rfl rfl hn rfl (q_assign rfl rfl) ?_
  refine run_nil ?_
  refine aend_then ?_
  refine awp_seq ?_
  refine awp_region ?_
  refine sq rfl rfl hn rfl (q_assign rfl rfl) ?_
  refine run_nil ?_
  refine aend_then ?_
  refine awp_seq ?_
  refine awp_seq ?_
  refine gh_awp (g_nil (t := 9) (id := 9) 3 1 rfl (nb hn rfl)) ?_
  refine awp_region ?_
  refine sq rfl rfl hn rfl (q_assign rfl rfl) ?_
  refine run_nil ?_
  refine aend_then ?_
  refine awp_block ?_
  refine awp_loop_on (ι := { x : Nat × Value // x.1 ≤ r.start.length }) (fun x => (10, true, .d (.int .i64 (x.1.1 : Nat))) :: (9, true, .val x.1.2) :: anys [13, 14, 15, 16, 17, 11, 12, 20, 21, 22, 23, 26, 27, 28, 29, 30, 31, 32, 33, 34, 35, 36, 37, 38, 39, 24, 25, 40, 41, 42, 43, 44, 18, 19]) (fun x => [(9, .row x.1.2 3 1 ((refSurely all house day.toNat x.1.1).map intE))]) (fun x => r.start.length - x.1.1) ⟨(0, .slice none 0 0), by simp⟩ ⟨.inl rfl, .inl rfl, holdT_anys _⟩ ⟨.inl rfl, trivial⟩ ?_
  rintro ⟨⟨h, vv⟩, hh⟩
  dsimp only
  dsimp only at hh
  have hfl : (refSurely all house day.toNat h).length ≤ h := filter_len
  refine awp_seq ?_
  refine awp_seq ?_
  refine awp_region ?_
  refine sq rfl rfl hn rfl (q_move rfl rfl) ?_
  refine sq rfl rfl hn rfl (q_fieldAddr rfl rfl Try.underlying26 rfl sz22) ?_
  refine sq rfl rfl hn rfl (q_load rfl rfl (id := 4) rfl Try.underlying22 rfl rfl sees0) ?_
  refine sq rfl rfl hn rfl (q_len rfl rfl Try.underlying22) ?_
  refine sq rfl rfl hn rfl (q_lss rfl rfl rfl) ?_
  refine run_nil ?_
  refine aend_then ?_
  refine awp_cond rfl (fun hb0 => ?_) (fun hb0 => ?_)
  · try simp only [decide_eq_true_eq, decide_eq_false_iff_not, Bool.and_eq_true, Bool.or_eq_true, Bool.and_eq_false_iff, Bool.or_eq_false_iff, Bool.not_eq_true', Bool.not_eq_false', beq_iff_eq, bne_iff_ne, ne_eq, beq_eq_false_iff_ne, bne_eq_false_iff_eq, Int.not_lt, Int.not_le] at hb0
    have hlt : h < r.start.length := by simpa using hb0
    refine awp_skip ?_
    refine aend_then ?_
    refine awp_seq ?_
    refine awp_block ?_
    refine awp_seq ?_
    refine awp_region ?_
    refine sq rfl rfl hn rfl (q_assign rfl rfl) ?_
    refine run_nil ?_
    refine aend_then ?_
    refine awp_seq ?_
    refine awp_seq ?_
    refine awp_region ?_
    refine sq rfl rfl hn rfl (q_assign rfl rfl) ?_
    refine run_nil ?_
    refine aend_then ?_
    refine awp_block ?_
    refine awp_loop_on (ι := { i : Nat // i ≤ all.length }) (fun y => (12, true, .d (.int .i64 (y.1 : Nat))) :: (11, true, .d (.bool ((all.take y.1).all fun o => houseAt o day.toNat h == house))) :: anys [20, 21, 22, 23, 26, 27, 28, 29, 30, 31, 32, 33, 34, 35, 36, 37, 38, 39, 24, 25]) (fun y => []) (fun y => all.length - y.1) ⟨0, by simp⟩ ⟨.inl rfl, .inl rfl, holdT_anys _⟩ trivial ?_
    rintro ⟨i, hi⟩
    dsimp only
    refine awp_seq ?_
    refine awp_seq ?_
    refine awp_region ?_
    refine sq rfl rfl hn rfl (q_move rfl rfl) ?_
    refine sq rfl rfl hn rfl (q_move rfl rfl) ?_
    refine sq rfl rfl hn rfl (q_len rfl rfl Try.underlying38) ?_
    refine sq rfl rfl hn rfl (q_lss rfl rfl rfl) ?_
    refine run_nil ?_
    refine aend_then ?_
    refine awp_cond rfl (fun hb1 => ?_) (fun hb1 => ?_)
    · try simp only [decide_eq_true_eq, decide_eq_false_iff_not, Bool.and_eq_true, Bool.or_eq_true, Bool.and_eq_false_iff, Bool.or_eq_false_iff, Bool.not_eq_true', Bool.not_eq_false', beq_iff_eq, bne_iff_ne, ne_eq, beq_eq_false_iff_ne, bne_eq_false_iff_eq, Int.not_lt, Int.not_le] at hb1
      have hlt2 : i < all.length := by simpa using hb1
      obtain ⟨o, ho⟩ := ex_get hlt2
      have hol := hall o (List.mem_of_getElem? ho)
      refine awp_skip ?_
      refine aend_then ?_
      refine awp_seq ?_
      refine awp_block ?_
      refine awp_region ?_
      refine sq rfl rfl hn rfl (q_move rfl rfl) ?_
      refine sq rfl rfl hn rfl (q_move rfl rfl) ?_
      refine stepG [] (guard_some rfl rfl rfl) rfl (nb hn rfl) (fun hc => trivial) (fun hc => q_move rfl rfl) ?_
      refine stepG [] (guard_some rfl rfl rfl) rfl (nb hn rfl) (fun hc => trivial) (fun hc => q_move rfl rfl) ?_
      refine stepG [] (guard_some rfl rfl rfl) rfl (nb hn rfl) (fun hc => trivial) (fun hc => q_move rfl rfl) ?_
      refine stepG [] (guard_some rfl rfl rfl) rfl (nb hn rfl) (fun hc => trivial) (fun hc => q_move rfl rfl) ?_
      refine stepG [(28, _), (29, _)] (guard_some rfl rfl rfl) rfl (nb hn rfl) (fun hc => ⟨⟨_, rfl, hc⟩, ⟨_, rfl, hc⟩, trivial⟩) (fun hc => q_index rfl rfl rfl Try.underlying38 sz88 rfl (mget ho)) ?_
      refine stepG [(32, _)] (guard_some rfl rfl rfl) rfl (nb hn rfl) (fun hc => ⟨⟨_, rfl, hc⟩, trivial⟩) (fun hc => q_fieldAddrp rfl rfl Try.underlying88 rfl sz84 rfl) ?_
      refine stepG [(33, _), (30, _)] (guard_some rfl rfl rfl) rfl (nb hn rfl) (fun hc => ⟨⟨_, rfl, hc⟩, ⟨_, rfl, hc⟩, trivial⟩) (fun hc => q_indexP (i := day.toNat) rfl rfl rfl Try.underlying84 sz83 (by omega) (by omega) rfl) ?_
      refine stepG [(34, _), (31, _)] (guard_some rfl rfl rfl) rfl (nb hn rfl) (fun hc => ⟨⟨_, rfl, hc⟩, ⟨_, rfl, hc⟩, trivial⟩) (fun hc => q_indexP (i := h) rfl rfl rfl Try.underlying83 sz3 rfl (by omega) (drop3 (x := houseAt o day.toNat h) (by show o[0 + day.toNat * 4 + h * 1]? = _; rw [show 0 + day.toNat * 4 + h * 1 = day.toNat * 4 + h by omega]; exact getD_some (by omega)))) ?_
      refine stepG [(35, _)] (guard_some rfl rfl rfl) rfl (nb hn rfl) (fun hc => ⟨⟨_, rfl, hc⟩, trivial⟩) (fun hc => q_loadp rfl rfl Try.underlying3 rfl seesF0) ?_
      refine stepG [] (guard_some rfl rfl rfl) rfl (nb hn rfl) (fun hc => trivial) (fun hc => q_move rfl rfl) ?_
      refine stepG [(36, _), (37, _)] (guard_some rfl rfl rfl) rfl (nb hn rfl) (fun hc => ⟨⟨_, rfl, hc⟩, ⟨_, rfl, hc⟩, trivial⟩) (fun hc => q_eql rfl rfl rfl) ?_
      refine sq rfl rfl hn rfl (q_and rfl rfl rfl (by simp_all)) ?_
      refine sq rfl rfl hn rfl (q_assign rfl rfl) ?_
      refine run_nil ?_
      refine aend_block ?_
      refine aend_then ?_
      refine awp_region ?_
      refine sq rfl rfl hn rfl (q_move rfl rfl) ?_
      refine sq rfl rfl hn rfl (q_add rfl rfl rfl (r := ((i + 1 : Nat) : Int)) (i64w (by omega) (by omega))) ?_
      refine sq rfl rfl hn rfl (q_assign rfl rfl) ?_
      refine run_nil ?_
      exact aend_round_on ⟨i + 1, by omega⟩ ⟨.inl rfl, .inl (by rw [all_take ho]; rfl), holdT_anys _⟩ trivial (by simp only; omega) (by repeat (first | exact kr _ | refine kc rfl ?_)) (by repeat (first | exact kr _ | refine kc rfl ?_))
    · try simp only [decide_eq_true_eq, decide_eq_false_iff_not, Bool.and_eq_true, Bool.or_eq_true, Bool.and_eq_false_iff, Bool.or_eq_false_iff, Bool.not_eq_true', Bool.not_eq_false', beq_iff_eq, bne_iff_ne, ne_eq, beq_eq_false_iff_ne, bne_eq_false_iff_eq, Int.not_lt, Int.not_le] at hb1
      have hie : i = all.length := by simp only [List.length_map] at hb1; omega
      subst hie; rw [List.take_length]
      refine awp_exit ?_
      refine aend_then_exit ?_
      refine aend_then_exit ?_
      refine aend_block_exit ?_
      refine aend_then ?_
      refine awp_seq ?_
      refine awp_region ?_
      refine sq rfl rfl hn rfl (q_move rfl rfl) ?_
      refine run_nil ?_
      refine aend_then ?_
      refine awp_cond rfl (fun hb2 => ?_) (fun hb2 => ?_)
      · skip
        refine awp_region ?_
        refine sq rfl rfl hn rfl (q_move rfl rfl) ?_
        refine sq rfl rfl hn rfl (q_move rfl rfl) ?_
        refine stepW (s_buildSlice rfl rfl rfl (nb hn rfl) Try.underlying22 sz3 zr3 rfl rfl rfl (show _ = [.d (.int .i64 0)] from by kernel_rfl) (by kernel_rfl) rfl (fill_nat (by kernel_rfl)) rfl rfl rfl) fun _ => ?_
        refine stepW (s_append (id := 9) rfl rfl rfl (nb hn rfl) elt22 trivial rfl rfl rfl (by simp [chunk]; omega) (by simp [chunk]; omega) (fun b hb => trivial)) fun v44 => ?_
        refine sq rfl rfl hn rfl (q_assign rfl rfl) ?_
        refine run_nil ?_
        refine aend_block ?_
        refine aend_then ?_
        refine awp_region ?_
        refine sq rfl rfl hn rfl (q_move rfl rfl) ?_
        refine sq rfl rfl hn rfl (q_add rfl rfl rfl (r := ((h + 1 : Nat) : Int)) (i64w (by omega) (by omega))) ?_
        refine sq rfl rfl hn rfl (q_assign rfl rfl) ?_
        refine run_nil ?_
        exact aend_round_on ⟨(h + 1, v44), by simp only; omega⟩ ⟨.inl rfl, .inl rfl, holdT_anys _⟩ ⟨.inl (by unfold refSurely; rw [filter_t hb2, List.map_append]; rfl), trivial⟩ (by simp only; omega) (by repeat (first | exact kr _ | refine kc rfl ?_)) (by repeat (first | exact kr _ | refine kc rfl ?_))
      · skip
        refine awp_skip ?_
        refine aend_block ?_
        refine aend_then ?_
        refine awp_region ?_
        refine sq rfl rfl hn rfl (q_move rfl rfl) ?_
        refine sq rfl rfl hn rfl (q_add rfl rfl rfl (r := ((h + 1 : Nat) : Int)) (i64w (by omega) (by omega))) ?_
        refine sq rfl rfl hn rfl (q_assign rfl rfl) ?_
        refine run_nil ?_
        exact aend_round_on ⟨(h + 1, vv), by simp only; omega⟩ ⟨.inl rfl, .inl rfl, holdT_anys _⟩ ⟨.inl (by unfold refSurely; rw [filter_f hb2]; rfl), trivial⟩ (by simp only; omega) (by repeat (first | exact kr _ | refine kc rfl ?_)) (by repeat (first | exact kr _ | refine kc rfl ?_))
  · try simp only [decide_eq_true_eq, decide_eq_false_iff_not, Bool.and_eq_true, Bool.or_eq_true, Bool.and_eq_false_iff, Bool.or_eq_false_iff, Bool.not_eq_true', Bool.not_eq_false', beq_iff_eq, bne_iff_ne, ne_eq, beq_eq_false_iff_ne, bne_eq_false_iff_eq, Int.not_lt, Int.not_le] at hb0
    have hne : h = r.start.length := by simp only [List.length_map] at hb0; omega
    subst hne
    refine awp_exit ?_
    refine aend_then_exit ?_
    refine aend_then_exit ?_
    refine aend_block_exit ?_
    refine aend_then ?_
    refine awp_seq ?_
    refine awp_region ?_
    refine sq rfl rfl hn rfl (q_move rfl rfl) ?_
    refine sq rfl rfl hn rfl (q_assign rfl rfl) ?_
    refine run_nil ?_
    refine aend_then ?_
    refine awp_ret ?_
    refine gh_end (g_row (t := 8) (id := 9) rfl rfl) ?_
    exact ret_1 (.inl rfl) hl rfl (.tmp rfl)
end Go.Proofs.Ytnbmmopjkkofoaa
