/-
  A part of the proof that contangolaw.ShortNames returns true: what the last text needs, and no more. No condition: no statement of the seat is proved here.
-/
import Derived.Test.YtaokpncjemkhcaaGreatRows
import Derived.Test.YtaokpncjemkhcaaGreatShortNamesG
namespace Go.Proofs.YtaokpncjemkhcaaGreat
open Go.ChangeShapes Go.WideShapes Go.ChangeAt Go.RowKit
set_option linter.all false
theorem own : ownKnob Tryz.prog.godebug = none := by kernel_rfl
theorem laidOut : laidOutB Tryz.prog = true := by kernel_rfl
abbrev SW : List D → Prop := fun ds => ∃ n, ds = [.int .u16 n] ∧ (Lit.int .u16 n).wf = true
end Go.Proofs.YtaokpncjemkhcaaGreat
namespace Go.Proofs.YtaokpncjemkhcaaGreat
open Go.RowKit
set_option maxRecDepth 20000
set_option linter.all false
@[reducible] def workC (r : Reg) (b : Nat) : List D := regC r ++ [.raw (.map (some b))]
@[reducible] def spotC (d n m : Nat) : List D := [.int .i64 (d : Nat), .int .i64 (n : Nat), .int .u64 (m : Nat)]
@[reducible] def spotD (d n m : Nat) : D := .agg (spotC d n m)
abbrev KS : Value → Prop := KV Tryz.prog 180
def inE (e : Ent5) (d : Nat) : Bool := decide (e.lo ≤ (d : Int)) && decide ((d : Int) ≤ e.hi)
/-- What can be next, within a day. -/
def nextE (r : Reg) (e : Ent5) (d n m : Nat) : List (Nat × Nat × Nat) :=
  (bif inE e d && canB r n m then [(d, n + 1, m ||| 2 ^ n)] else []) ++ (bif m.testBit n || decide ((d : Int) < e.hi) then [(d, n + 1, m)] else [])
def nextL (r : Reg) (d n m : Nat) : List (Nat × Nat × Nat) := match r.entries[n]? with
  | some e => nextE r e d n m
  | none => []
def spotX (s : Nat × Nat × Nat) : List D := [spotD s.1 s.2.1 s.2.2]
def nextXs (r : Reg) (d n m : Nat) : List (List D) := (nextL r d n m).map spotX
theorem nextXs_eq {r : Reg} {e : Ent5} {d n m : Nat} (h : r.entries[n]? = some e) : nextXs r d n m = (nextE r e d n m).map spotX := by simp [nextXs, nextL, h]
/-- All sights of a day are true. -/
def seenN (r : Reg) (d m : Nat) : Bool := r.sights.all (seenB (d : Int) (placesA r m))
def goesF (r : Reg) : Nat → Nat → Nat → Nat → Bool
  | 0, _, _, _ => true
  | k + 1, d, n, m => bif decide (9 < d) then true else bif n == r.entries.length then seenN r d m && goesF r k (d + 1) 0 m else (nextL r d n m).any fun s => goesF r k s.1 s.2.1 s.2.2
def muS (r : Reg) (d n : Nat) : Nat := if 9 < d then 0 else (10 - d) * (r.entries.length + 1) + (r.entries.length - n)
/-- Whether all that is left can happen from a spot on. -/
def goesB (r : Reg) (d n m : Nat) : Bool := goesF r (muS r d n + 1) d n m
theorem y8 {r : Reg} {d n m : Nat} {s : Nat × Nat × Nat} (h : s ∈ nextL r d n m) : s.1 = d ∧ s.2.1 = n + 1 ∧ (s.2.2 = m ∨ s.2.2 = m ||| 2 ^ n) ∧ n < r.entries.length := by
  unfold nextL at h
  split at h
  · rename_i e he
    have hlt := (List.getElem?_eq_some_iff.1 he).1
    unfold nextE at h
    rcases List.mem_append.1 h with h | h
    · cases hc : (inE e d && canB r n m) <;> rw [hc] at h <;> simp at h
      subst h
      exact ⟨rfl, rfl, .inr rfl, hlt⟩
    · cases hc : (m.testBit n || decide ((d : Int) < e.hi)) <;> rw [hc] at h <;> simp at h
      subst h
      exact ⟨rfl, rfl, .inl rfl, hlt⟩
  · cases h
theorem kR {r : Reg} {d n : Nat} (hd : d ≤ 9) (hn : n < r.entries.length) : muS r d (n + 1) < muS r d n := by
  unfold muS; rw [if_neg (by omega), if_neg (by omega)]; omega
theorem kp {r : Reg} {d n : Nat} (hd : d ≤ 9) : muS r (d + 1) 0 < muS r d n := by
  unfold muS
  rw [if_neg (by omega : ¬ 9 < d)]
  by_cases h : 9 < d + 1
  · rw [if_pos h]; have : 10 - d = 1 := by omega
    rw [this]; omega
  · rw [if_neg h]
    have : 10 - d = (10 - (d + 1)) + 1 := by omega
    rw [this, Nat.add_mul]; omega
theorem zBB (r : Reg) : ∀ (k k' d n m : Nat), muS r d n < k → muS r d n < k' → goesF r k d n m = goesF r k' d n m
  | 0, _, _, _, _, h, _ => by omega
  | _ + 1, 0, _, _, _, _, h => by omega
  | k + 1, k' + 1, d, n, m, h, h' => by
    unfold goesF
    by_cases hd : 9 < d
    · simp [hd]
    · simp only [hd, decide_false, cond_false]
      have hd' : d ≤ 9 := by omega
      congr 1
      · have h1 := kp (r := r) (n := n) hd'
        rw [zBB r k k' (d + 1) 0 m (by omega) (by omega)]
      · have : ∀ s ∈ nextL r d n m, goesF r k s.1 s.2.1 s.2.2 = goesF r k' s.1 s.2.1 s.2.2 := fun s hs => by
          obtain ⟨e1, e2, _, e4⟩ := y8 hs
          have h1 := kR hd' e4
          rw [e1, e2]
          exact zBB r k k' d (n + 1) s.2.2 (by omega) (by omega)
        rw [Bool.eq_iff_iff, List.any_eq_true, List.any_eq_true]
        exact ⟨fun ⟨s, hs, hg⟩ => ⟨s, hs, by rw [← this s hs]; exact hg⟩, fun ⟨s, hs, hg⟩ => ⟨s, hs, by rw [this s hs]; exact hg⟩⟩
theorem zCs {r : Reg} {d n m : Nat} (h : 9 < d) : goesB r d n m = true := by unfold goesB goesF; simp [h]
theorem kK {r : Reg} {d m : Nat} (h : d ≤ 9) : goesB r d r.entries.length m = (seenN r d m && goesB r (d + 1) 0 m) := by
  unfold goesB
  have h1 := kp (r := r) (n := r.entries.length) h
  rw [goesF, show decide (9 < d) = false by simp; omega]
  simp only [cond_false, beq_self_eq_true, cond_true]
  rw [zBB r _ (muS r (d + 1) 0 + 1) (d + 1) 0 m (by omega) (by omega)]
theorem kq {r : Reg} {d n m : Nat} (h : d ≤ 9) (hn : n < r.entries.length) : goesB r d n m = (nextL r d n m).any fun s => goesB r s.1 s.2.1 s.2.2 := by
  unfold goesB
  rw [goesF, show decide (9 < d) = false by simp; omega, show (n == r.entries.length) = false by simp; omega]
  simp only [cond_false]
  have h1 := kR (r := r) h hn
  have : ∀ s ∈ nextL r d n m, goesF r (muS r d n) s.1 s.2.1 s.2.2 = goesF r (muS r s.1 s.2.1 + 1) s.1 s.2.1 s.2.2 := fun s hs => by
    obtain ⟨e1, e2, _, _⟩ := y8 hs
    rw [e1, e2]
    exact zBB r _ _ d (n + 1) s.2.2 (by omega) (by omega)
  rw [Bool.eq_iff_iff, List.any_eq_true, List.any_eq_true]
  exact ⟨fun ⟨s, hs, hg⟩ => ⟨s, hs, by rw [← this s hs]; exact hg⟩, fun ⟨s, hs, hg⟩ => ⟨s, hs, by rw [this s hs]; exact hg⟩⟩
theorem kk : KLaw Tryz.prog 180 (KV Tryz.prog 180) := KLaw.of (Go.deep_law (m := 3) (by omega) (by kernel_rfl) (by kernel_rfl) (by kernel_rfl))
theorem zAo {n : Int} (h : -9223372036854775808 ≤ n ∧ n ≤ 9223372036854775807) : (Lit.int .i64 n).wf = true := by
  have e1 : IntKind.i64.min = -9223372036854775808 := by decide
  have e2 : IntKind.i64.max = 9223372036854775807 := by decide
  simp only [Lit.wf, e1, e2, Bool.and_eq_true, decide_eq_true_eq]
  exact h
theorem wf_u64 {n : Int} (h : 0 ≤ n ∧ n ≤ 18446744073709551615) : (Lit.int .u64 n).wf = true := by
  have e1 : IntKind.u64.min = 0 := by decide
  have e2 : IntKind.u64.max = 18446744073709551615 := by decide
  simp only [Lit.wf, e1, e2, Bool.and_eq_true, decide_eq_true_eq]
  exact h
theorem spot_lits {d n m : Nat} (k : Nat) (hd : d ≤ 10) (hn : n ≤ 6) (hm : m < 18446744073709551616) : ∃ ls, Tryz.prog.keyLits (k + 2) 180 [.int .i64 (d : Nat), .int .i64 (n : Nat), .int .u64 (m : Nat)] = some ls := by
  have h1 := zAo (n := (d : Int)) (by omega)
  have h2 := zAo (n := (n : Int)) (by omega)
  have h3 := wf_u64 (n := (m : Int)) (by omega)
  have c1 : Tryz.prog.cellsOf 180 = 3 := by kernel_rfl
  have c2 : Tryz.prog.cellsOf 3 = 1 := by kernel_rfl
  have c3 : Tryz.prog.cellsOf 150 = 1 := by kernel_rfl
  simp only [Program.keyLits, Tryz.underlying180, Tryz.underlying3, Tryz.underlying150]
  simp [c1, c2, c3, h1, h2, h3]
theorem zAc {d n m : Nat} (hd : d ≤ 10) (hn : n ≤ 6) (hm : m < 18446744073709551616) : KV Tryz.prog 180 (.agg [.int .i64 (d : Nat), .int .i64 (n : Nat), .int .u64 (m : Nat)].toArray) := by
  have c1 : Tryz.prog.cellsOf 180 = 3 := by kernel_rfl
  have hk : Tryz.prog.keyType 180 = true := by kernel_rfl
  have h1 : Nat.ble 1 Tryz.prog.types.size = true := by kernel_rfl
  have hs : ∃ k, Tryz.prog.types.size + 1 = k + 2 := ⟨Tryz.prog.types.size - 1, by have := Nat.le_of_ble_eq_true h1; omega⟩
  obtain ⟨k, hs⟩ := hs
  obtain ⟨ls, hl⟩ := spot_lits k hd hn hm
  unfold KV keyOf
  rw [Tryz.underlying180, hs]
  simp only [hk, Value.formed, Tryz.underlying180, c1, Value.cells]
  simp [hl]
theorem lt64 {k x : Nat} (hk : k ≤ 6) (hx : x < 2 ^ k) : x < 18446744073709551616 := by
  have : 2 ^ k ≤ 2 ^ 6 := Nat.pow_le_pow_right (by omega) hk
  omega
theorem sz4 : Sz Tryz.prog 4 1 := (by kernel_rfl : (Tryz.prog.info? 4).map (·.size) = some 1)
theorem sz180 : Sz Tryz.prog 180 3 := (by kernel_rfl : (Tryz.prog.info? 180).map (·.size) = some 3)
theorem sz175 : Sz Tryz.prog 175 1 := (by kernel_rfl : (Tryz.prog.info? 175).map (·.size) = some 1)
theorem zr4 : (Tryz.prog.info? 4).map (·.zero) = some (some (.bool false)) := by kernel_rfl
theorem zr180 : (Tryz.prog.info? 180).map (·.zero) = some (some (.agg #[(.int .i64 0), (.int .i64 0), (.int .u64 0)])) := by kernel_rfl
theorem zr177 : (Tryz.prog.info? 177).map (·.zero) = some (some (.agg #[(.int .i64 0), (.slice none 0 0), (.slice none 0 0), (.slice none 0 0), (.map none)])) := by kernel_rfl
theorem bt180 : BT Tryz.prog 180 (.agg #[(.int .i64 0), (.int .i64 0), (.int .u64 0)]) (fun i => ([(0, 1), (1, 1), (2, 1)] : List (Nat × Nat))[i]?) := yO Tryz.underlying180 zr180 (by kernel_rfl)
theorem bt177 : BT Tryz.prog 177 (.agg #[(.int .i64 0), (.slice none 0 0), (.slice none 0 0), (.slice none 0 0), (.map none)]) (fun i => ([(0, 4), (4, 1)] : List (Nat × Nat))[i]?) := yO Tryz.underlying177 zr177 (by kernel_rfl)
theorem zDO (r : Reg) (d n m : Nat) : PureAt Tryz.prog 116 [regD r, spotD d n m] (.fn (.func 135) [] [.ptr (regC r), .ptr (spotC d n m)]) := by
 refine PureAt.of_awp Tryz.func116 rfl (by kernel_rfl) (Nat.le_of_ble_eq_true rfl) fun Γ hn hl => ?_
 refine zC (zB ?_)
 refine stepW (zr 2 rfl rfl rfl (nb hn rfl) rfl rfl) fun b2 => ?_
 refine stepW (zr 3 rfl rfl rfl (nb hn rfl) rfl rfl) fun b3 => ?_
 refine sq rfl rfl hn rfl (zF rfl rfl) ?_
 refine zE (zA (zC ?_))
 refine zx (zn (t := 2) 2 rfl (nb hn rfl) rfl rfl trivial) ?_
 refine zx (zn (t := 3) 3 rfl (nb hn rfl) rfl rfl trivial) ?_
 refine zB ?_
 refine sq rfl rfl hn rfl (yE rfl rfl rfl) ?_
 refine sq rfl rfl hn rfl (zF rfl rfl) ?_
 refine zE (zA (zO ?_))
 exact zt (.inl rfl) hl rfl (.tmp rfl)
theorem zBW (r : Reg) (b d n m : Nat) (v : Valid r) (hd : d ≤ 9) (hm : m < 18446744073709551616) : PureAt Tryz.prog 117 [.ptr (workC r b), spotD d n m] (.tup [spotD (d + 1) 0 m, .bool (seenN r d m)]) := by
 refine PureAt.of_awp Tryz.func117 rfl (by kernel_rfl) (Nat.le_of_ble_eq_true rfl) fun Γ hn hl => ?_
 refine zC (zB ?_)
 refine stepW (zr 3 rfl rfl rfl (nb hn rfl) rfl rfl) fun b3 => ?_
 refine stepW (zh 4 rfl rfl rfl (nb hn rfl) zr180 rfl rfl) fun b4 => ?_
 refine sq rfl rfl hn rfl (zF rfl rfl) ?_
 refine zE (zA (zC ?_))
 refine yC (W := fun b => b ≠ b3) fmo ?_
 refine d1q (i := 0) rfl (by kernel_rfl) (fun _ _ _ _ h => h) rfl rfl hn rfl (zH rfl rfl Tryz.underlying180 rfl sz3) ?_
 refine d1q (i := 1) rfl (by kernel_rfl) (fun _ _ _ _ h => h) rfl rfl hn rfl (zQ rfl rfl (id := 3) rfl Tryz.underlying3 rfl rfl (seesA (by simp))) ?_
 refine d1q (i := 2) rfl (by kernel_rfl) (fun _ _ _ _ h => h) rfl rfl hn rfl (z6 rfl rfl rfl (r := ((d + 1 : Nat) : Int)) (i64w (by omega) (by omega))) ?_
 refine d1q (i := 3) rfl (by kernel_rfl) (fun _ _ _ _ h => h) rfl rfl hn rfl (zH rfl rfl Tryz.underlying180 rfl sz150) ?_
 refine d1q (i := 4) rfl (by kernel_rfl) (fun _ _ _ _ h => h) rfl rfl hn rfl (zQ rfl rfl (id := 3) rfl Tryz.underlying150 rfl rfl (seesA (by simp))) ?_
 refine d1q (i := 5) rfl (by kernel_rfl) (fun _ _ _ _ h => h) rfl rfl hn rfl (zg rfl bt180 rfl rfl rfl rfl rfl) ?_
 refine d1q (i := 6) rfl (by kernel_rfl) (fun _ _ _ _ h => h) rfl rfl hn rfl (zG rfl rfl) ?_
 refine d1q (i := 7) rfl (by kernel_rfl) (fun _ _ _ _ h => h) rfl rfl hn rfl (z8 rfl rfl) ?_
 refine d1q (i := 8) rfl (by kernel_rfl) (fun _ _ _ _ h => h) rfl rfl hn rfl (zN rfl rfl Tryz.underlying177 rfl sz44 rfl) ?_
 refine d1q (i := 9) rfl (by kernel_rfl) (fun _ _ _ _ h => h) rfl rfl hn rfl (ze rfl rfl Tryz.underlying44 rfl sz44 rfl rfl seesFA) ?_
 refine d1q (i := 10) rfl (by kernel_rfl) (fun _ _ _ _ h => h) rfl rfl hn rfl (zH rfl rfl Tryz.underlying180 rfl sz3) ?_
 refine d1q (i := 11) rfl (by kernel_rfl) (fun _ _ _ _ h => h) rfl rfl hn rfl (zQ rfl rfl (id := 3) rfl Tryz.underlying3 rfl rfl (seesA (by simp))) ?_
 refine d1q (i := 12) rfl (by kernel_rfl) (fun _ _ _ _ h => h) rfl rfl hn rfl (zG rfl rfl) ?_
 refine d1q (i := 13) rfl (by kernel_rfl) (fun _ _ _ _ h => h) rfl rfl hn rfl (z8 rfl rfl) ?_
 refine d1q (i := 14) rfl (by kernel_rfl) (fun _ _ _ _ h => h) rfl rfl hn rfl (zN rfl rfl Tryz.underlying177 rfl sz44 rfl) ?_
 refine d1q (i := 15) rfl (by kernel_rfl) (fun _ _ _ _ h => h) rfl rfl hn rfl (ze rfl rfl Tryz.underlying44 rfl sz44 rfl rfl seesFA) ?_
 refine d1q (i := 16) rfl (by kernel_rfl) (fun _ _ _ _ h => h) rfl rfl hn rfl (zH rfl rfl Tryz.underlying180 rfl sz150) ?_
 refine d1q (i := 17) rfl (by kernel_rfl) (fun _ _ _ _ h => h) rfl rfl hn rfl (zQ rfl rfl (id := 3) rfl Tryz.underlying150 rfl rfl (seesA (by simp))) ?_
 refine zM ?_
 refine zk (i := 18) (by kernel_rfl) rfl (s_call [] (fun _ => zBP r m v hm) rfl (zI rfl) rfl (nb hn rfl) (fun _ => trivial) rfl rfl (.refl _)) fun _ => ?_
 refine d2_of_d1 (zM ?_)
 refine zk (i := 19) (by kernel_rfl) rfl (s_call [] (fun _ => seen_ok r (d : Int) (placesA r m) v (kE r m)) rfl (zI rfl) rfl (nb hn rfl) (fun _ => trivial) rfl rfl (.refl _)) fun _ => ?_
 refine d2_of_d1 (zM ?_)
 refine kH (i := 4) (j := 3) rfl rfl rfl (fun hne4_3 => ?_)
 refine zk (i := 20) (by kernel_rfl) rfl (zl rfl rfl rfl rfl rfl rfl (id := 4) rfl sz180 rfl (Nat.le_of_ble_eq_true rfl) rfl (fun e => hne4_3 _ rfl (congrArg some e.symm))) fun _ => ?_
 refine d2_of_d1 ?_
 refine d1q (i := 21) rfl (by kernel_rfl) (fun _ _ _ _ h => h) rfl rfl hn rfl (zF rfl rfl) ?_
 refine zM ?_
 refine zv (by kernel_rfl) ?_
 refine zA (zO ?_)
 exact kL (.inl rfl) hl rfl (.cellA rfl (id := 4) rfl Tryz.underlying180 rfl sz180 rfl rfl) (.tmp rfl)
theorem zEP (r : Reg) : EffAt Tryz.prog 85 [.d (regD r)] [] (X := Nat) (fun b => .d (.ptr (workC r b))) (fun b => [(1000, mapRes KS b fun _ _ => False)]) := by
 refine EffAt.of_awp Tryz.func85 rfl (by kernel_rfl) rfl fun Γ hn => ?_
 refine zC (zB ?_)
 refine stepW (zr 1 rfl rfl rfl (nb hn rfl) rfl rfl) fun b1 => ?_
 refine sq rfl rfl hn rfl (zF rfl rfl) ?_
 refine zE (zA (zC (zB ?_)))
 refine sq rfl rfl hn rfl (zY rfl rfl (id := 1) rfl Tryz.underlying44 rfl sz44 rfl rfl sees0) ?_
 refine stepW (zBX (KS) 1000 rfl rfl rfl (nb hn rfl)) fun b4 => ?_
 refine sq rfl rfl hn rfl (zg rfl bt177 rfl rfl rfl rfl rfl) ?_
 refine stepW (zr 6 rfl rfl rfl (nb hn rfl) rfl rfl) fun b6 => ?_
 refine sq rfl rfl hn rfl (zF rfl rfl) ?_
 refine zE (zA (zO ?_))
 refine kF (zn (t := 2) 6 rfl (nb hn rfl) rfl rfl trivial) ?_
 exact ret_E (.inl rfl) b4 (yB rfl (.tmp rfl)) ⟨rfl, trivial⟩
theorem next_second {r : Reg} {e : Ent5} {d n m : Nat} (h : (m.testBit n || decide ((d : Int) < e.hi)) = true) : ((nextE r e d n m).map spotX)[(bif inE e d && canB r n m then 1 else 0)]? = some [spotD d (n + 1) m] := by
  rcases Bool.eq_false_or_eq_true (inE e d && canB r n m) with hA | hA <;> simp only [nextE, h, hA, cond_true, cond_false] <;> rfl
theorem next_len_t {r : Reg} {e : Ent5} {d n m : Nat} (h : (m.testBit n || decide ((d : Int) < e.hi)) = true) : ((nextE r e d n m).map spotX).length = (bif inE e d && canB r n m then 1 else 0) + 1 := by
  rcases Bool.eq_false_or_eq_true (inE e d && canB r n m) with hA | hA <;> simp only [nextE, h, hA, cond_true, cond_false] <;> rfl
theorem next_len_f {r : Reg} {e : Ent5} {d n m : Nat} (h : (m.testBit n || decide ((d : Int) < e.hi)) = false) : ((nextE r e d n m).map spotX).length = (bif inE e d && canB r n m then 1 else 0) := by
  rcases Bool.eq_false_or_eq_true (inE e d && canB r n m) with hA | hA <;> simp only [nextE, h, hA, cond_true, cond_false] <;> rfl
theorem next_first {r : Reg} {e : Ent5} {d n m : Nat} (h : (inE e d && canB r n m) = true) : ((nextE r e d n m).map spotX)[0]? = some [spotD d (n + 1) (m ||| 2 ^ n)] := by simp [nextE, h, spotX]
theorem zBz (r : Reg) (d n m : Nat) (e : Ent5) (he : r.entries[n]? = some e) (v : Valid r) (hd : d ≤ 9) (hn6 : n < 6) (hm : m < 18446744073709551616) : SeqAt Tryz.prog 135 [.ptr (regC r), .ptr (spotC d n m)] (nextXs r d n m) := by
 rw [nextXs_eq he]
 have hlt : n < r.entries.length := (List.getElem?_eq_some_iff.1 he).1
 refine ⟨kZ (fn := Tryz.f135) (by kernel_rfl) rfl rfl, fun ι l R A B hy i0 hA0 => EffAt.of_awp Tryz.func135 rfl (by kernel_rfl) rfl fun Γ hn => zCJ.1 ?_⟩
 refine zz (zj ?_)
 refine sqI rfl rfl hn rfl (zN rfl rfl Tryz.underlying44 rfl sz41 rfl) rfl ?_
 refine sqI rfl rfl hn rfl (zR rfl rfl Tryz.underlying41 rfl seesF0) rfl ?_
 refine sqI rfl rfl hn rfl (zN rfl rfl Tryz.underlying180 rfl sz3 rfl) rfl ?_
 refine sqI rfl rfl hn rfl (zR rfl rfl Tryz.underlying3 rfl seesF0) rfl ?_
 refine sqI rfl rfl hn rfl (q_index rfl rfl rfl Tryz.underlying41 sz87 rfl (mget he)) rfl ?_
 refine sqI rfl rfl hn rfl (ze rfl rfl Tryz.underlying87 rfl sz87 rfl rfl seesF0) rfl ?_
 refine stepWI ((zh 4 rfl rfl rfl (nb hn rfl) zr87 rfl rfl).i rfl) fun b4 => ?_
 refine stepWI ((zl rfl rfl rfl rfl rfl rfl (id := 4) rfl sz87 rfl (Nat.le_of_ble_eq_true rfl) rfl trivial).i rfl) fun _ => ?_
 refine zu (zi (zz (zz ?_)))
 refine gh_awi (zn (t := 4) 4 rfl (nb hn rfl) rfl rfl trivial) ?_
 refine zDy (W := fun b => True) fmo ?_
 refine d1qI (i := 0) rfl (by kernel_rfl) rfl (fun _ _ _ _ h => h) rfl rfl hn rfl (zN rfl rfl Tryz.underlying180 rfl sz3 rfl) ?_
 refine d1qI (i := 1) rfl (by kernel_rfl) rfl (fun _ _ _ _ h => h) rfl rfl hn rfl (zR rfl rfl Tryz.underlying3 rfl seesFA) ?_
 refine d1qI (i := 2) rfl (by kernel_rfl) rfl (fun _ _ _ _ h => h) rfl rfl hn rfl (zN rfl rfl Tryz.underlying87 rfl sz37 rfl) ?_
 refine d1qI (i := 3) rfl (by kernel_rfl) rfl (fun _ _ _ _ h => h) rfl rfl hn rfl (zN rfl rfl Tryz.underlying37 rfl sz3 rfl) ?_
 refine d1qI (i := 4) rfl (by kernel_rfl) rfl (fun _ _ _ _ h => h) rfl rfl hn rfl (zR rfl rfl Tryz.underlying3 rfl seesFA) ?_
 refine d1qI (i := 5) rfl (by kernel_rfl) rfl (fun _ _ _ _ h => h) rfl rfl hn rfl (zN rfl rfl Tryz.underlying87 rfl sz37 rfl) ?_
 refine d1qI (i := 6) rfl (by kernel_rfl) rfl (fun _ _ _ _ h => h) rfl rfl hn rfl (zN rfl rfl Tryz.underlying37 rfl sz3 rfl) ?_
 refine d1qI (i := 7) rfl (by kernel_rfl) rfl (fun _ _ _ _ h => h) rfl rfl hn rfl (zR rfl rfl Tryz.underlying3 rfl seesFA) ?_
 refine zo ?_
 refine yH (i := 8) (by kernel_rfl) rfl ((s_call [] (fun _ => kh (d : Int) e.lo e.hi) rfl (zI rfl) rfl (nb hn rfl) (fun _ => trivial) rfl rfl (.refl _)).i rfl) fun _ => ?_
 refine zq ?_
 refine d1qI (i := 9) rfl (by kernel_rfl) rfl (fun _ _ _ _ h => h) rfl rfl hn rfl (zG rfl rfl) ?_
 refine d1gI (i := 10) [] rfl (by kernel_rfl) rfl (fun _ _ _ _ h => h) (zD rfl rfl rfl) rfl hn rfl (fun hc => trivial) (fun hc => ze rfl rfl Tryz.underlying44 rfl sz44 rfl rfl seesFA) ?_
 refine d1gI (i := 11) [] rfl (by kernel_rfl) rfl (fun _ _ _ _ h => h) (zD rfl rfl rfl) rfl hn rfl (fun hc => trivial) (fun hc => zN rfl rfl Tryz.underlying180 rfl sz3 rfl) ?_
 refine d1gI (i := 12) [(22, _)] rfl (by kernel_rfl) rfl (fun _ _ _ _ h => h) (zD rfl rfl rfl) rfl hn rfl (fun hc => ⟨⟨_, rfl, hc⟩, trivial⟩) (fun hc => zR rfl rfl Tryz.underlying3 rfl seesFA) ?_
 refine d1gI (i := 13) [] rfl (by kernel_rfl) rfl (fun _ _ _ _ h => h) (zD rfl rfl rfl) rfl hn rfl (fun hc => trivial) (fun hc => zN rfl rfl Tryz.underlying180 rfl sz150 rfl) ?_
 refine d1gI (i := 14) [(24, _)] rfl (by kernel_rfl) rfl (fun _ _ _ _ h => h) (zD rfl rfl rfl) rfl hn rfl (fun hc => ⟨⟨_, rfl, hc⟩, trivial⟩) (fun hc => zR rfl rfl Tryz.underlying150 rfl seesFA) ?_
 refine zo ?_
 refine yH (i := 15) (by kernel_rfl) rfl ((s_call [(21, _), (23, _), (25, _)] (fun hc => can_ok r n m v hm hlt) rfl (zD rfl rfl rfl) rfl (nb hn rfl) (fun hc => ⟨⟨_, rfl, hc⟩, ⟨_, rfl, hc⟩, ⟨_, rfl, hc⟩, trivial⟩) rfl rfl (.refl _)).i rfl) fun _ => ?_
 refine zq ?_
 refine d1qI (i := 16) rfl (by kernel_rfl) rfl (fun _ _ _ _ h => h) rfl rfl hn rfl (zy rfl rfl rfl (by simp_all)) ?_
 refine d1qI (i := 17) rfl (by kernel_rfl) rfl (fun _ _ _ _ h => h) rfl rfl hn rfl (zG rfl rfl) ?_
 refine d1gI (i := 18) [] rfl (by kernel_rfl) rfl (fun _ _ _ _ h => h) (zD rfl rfl rfl) rfl hn rfl (fun hc => trivial) (fun hc => zG rfl rfl) ?_
 refine d1gI (i := 19) [] rfl (by kernel_rfl) rfl (fun _ _ _ _ h => h) (zD rfl rfl rfl) rfl hn rfl (fun hc => trivial) (fun hc => zN rfl rfl Tryz.underlying180 rfl sz3 rfl) ?_
 refine d1gI (i := 20) [(30, _)] rfl (by kernel_rfl) rfl (fun _ _ _ _ h => h) (zD rfl rfl rfl) rfl hn rfl (fun hc => ⟨⟨_, rfl, hc⟩, trivial⟩) (fun hc => zR rfl rfl Tryz.underlying3 rfl seesFA) ?_
 refine d1gI (i := 21) [] rfl (by kernel_rfl) rfl (fun _ _ _ _ h => h) (zD rfl rfl rfl) rfl hn rfl (fun hc => trivial) (fun hc => zN rfl rfl Tryz.underlying180 rfl sz3 rfl) ?_
 refine d1gI (i := 22) [(32, _)] rfl (by kernel_rfl) rfl (fun _ _ _ _ h => h) (zD rfl rfl rfl) rfl hn rfl (fun hc => ⟨⟨_, rfl, hc⟩, trivial⟩) (fun hc => zR rfl rfl Tryz.underlying3 rfl seesFA) ?_
 refine d1gI (i := 23) [(33, _)] rfl (by kernel_rfl) rfl (fun _ _ _ _ h => h) (zD rfl rfl rfl) rfl hn rfl (fun hc => ⟨⟨_, rfl, hc⟩, trivial⟩) (fun hc => z6 rfl rfl rfl (r := ((n + 1 : Nat) : Int)) (i64w (by omega) (by omega))) ?_
 refine d1gI (i := 24) [] rfl (by kernel_rfl) rfl (fun _ _ _ _ h => h) (zD rfl rfl rfl) rfl hn rfl (fun hc => trivial) (fun hc => zN rfl rfl Tryz.underlying180 rfl sz150 rfl) ?_
 refine d1gI (i := 25) [(35, _)] rfl (by kernel_rfl) rfl (fun _ _ _ _ h => h) (zD rfl rfl rfl) rfl hn rfl (fun hc => ⟨⟨_, rfl, hc⟩, trivial⟩) (fun hc => zR rfl rfl Tryz.underlying150 rfl seesFA) ?_
 refine d1gI (i := 26) [] rfl (by kernel_rfl) rfl (fun _ _ _ _ h => h) (zD rfl rfl rfl) rfl hn rfl (fun hc => trivial) (fun hc => zN rfl rfl Tryz.underlying180 rfl sz3 rfl) ?_
 refine d1gI (i := 27) [(37, _)] rfl (by kernel_rfl) rfl (fun _ _ _ _ h => h) (zD rfl rfl rfl) rfl hn rfl (fun hc => ⟨⟨_, rfl, hc⟩, trivial⟩) (fun hc => zR rfl rfl Tryz.underlying3 rfl seesFA) ?_
 refine d1gI (i := 28) [(38, _)] rfl (by kernel_rfl) rfl (fun _ _ _ _ h => h) (zD rfl rfl rfl) rfl hn rfl (fun hc => ⟨⟨_, rfl, hc⟩, trivial⟩) (fun hc => q_shl rfl rfl rfl (by omega) (by show _ ≤ (64 : Int); omega) (shl_bit (by omega))) ?_
 refine d1gI (i := 29) [(36, _), (39, _)] rfl (by kernel_rfl) rfl (fun _ _ _ _ h => h) (zD rfl rfl rfl) rfl hn rfl (fun hc => ⟨⟨_, rfl, hc⟩, ⟨_, rfl, hc⟩, trivial⟩) (fun hc => q_bitor rfl rfl rfl (or_bits hm (pow_lt (by omega)))) ?_
 refine d1gI (i := 30) [(31, _), (34, _), (40, _)] rfl (by kernel_rfl) rfl (fun _ _ _ _ h => h) (zD rfl rfl rfl) rfl hn rfl (fun hc => ⟨⟨_, rfl, hc⟩, ⟨_, rfl, hc⟩, ⟨_, rfl, hc⟩, trivial⟩) (fun hc => zg rfl bt180 rfl rfl rfl rfl rfl) ?_
 refine zo ?_
 refine yH (i := 31) (by kernel_rfl) rfl (s_yield [(41, _), (29, _)] (i0) (fun hc => hy 0 [spotD d (n + 1) (m ||| 2 ^ n)] i0 (next_first (by simpa [inE] using hc)) hA0) rfl (zD rfl rfl rfl) rfl (nb hn rfl) (fun hc => ⟨⟨_, rfl, hc⟩, ⟨_, rfl, hc⟩, trivial⟩) rfl rfl (.refl _) rfl (fun _ _ => trivial)) fun ⟨⟨b1, i1⟩, hp1, hp0⟩ => ?_
 refine zq ?_
 refine d1gI (i := 32) [(42, _)] rfl (by kernel_rfl) rfl (fun _ _ _ _ h => h) (zD rfl rfl rfl) rfl hn rfl (fun hc => ⟨⟨_, rfl, hc⟩, trivial⟩) (fun hc => yF rfl rfl) ?_
 refine d1qI (i := 33) rfl (by kernel_rfl) rfl (fun _ _ _ _ h => h) rfl rfl hn rfl (zy rfl rfl rfl (by simp_all)) ?_
 refine zo ?_
 refine yz (by kernel_rfl) ?_
 refine zi ?_
 refine yg rfl (fun hb0 => ?_) (fun hb0 => ?_)
 ·
  have hA : (inE e d && canB r n m) = true := by simp [inE] at hb0 ⊢; exact hb0.1
  have hb1 : b1 = false := by simp at hb0; exact hb0.2
  refine zAw (zL ?_)
  exact ret_E (.inl rfl) ⟨i1, .inr ((hp1 (by simpa [inE, Bool.and_assoc] using hA)).2 hb1)⟩ (kX rfl) ⟨rfl, trivial⟩
 ·
  have hA1 : A (bif inE e d && canB r n m then 1 else 0) i1 := by
   rcases Bool.eq_false_or_eq_true (inE e d && canB r n m) with hA | hA
   ·
    have hb1 : b1 = true := by simp [inE] at hb0 hA; exact hb0 hA.1.1 hA.1.2 hA.2
    rw [hA]; exact (hp1 (by simpa [inE, Bool.and_assoc] using hA)).1 hb1
   ·
    rw [hA]; have hi := hp0 (by simpa [inE, Bool.and_assoc] using hA); simp only at hi; rw [hi]; exact hA0
  refine yi (zi (zz (zj ?_)))
  refine sqI rfl rfl hn rfl (zN rfl rfl Tryz.underlying180 rfl sz150 rfl) rfl ?_
  refine sqI rfl rfl hn rfl (zR rfl rfl Tryz.underlying150 rfl seesF0) rfl ?_
  refine sqI rfl rfl hn rfl (zN rfl rfl Tryz.underlying180 rfl sz3 rfl) rfl ?_
  refine sqI rfl rfl hn rfl (zR rfl rfl Tryz.underlying3 rfl seesF0) rfl ?_
  refine stepWI ((s_call [] (fun _ => zC9 m n hm (by omega)) rfl (zI rfl) rfl (nb hn rfl) (fun _ => trivial) rfl rfl (.refl _)).i rfl) fun _ => ?_
  refine sqI rfl rfl hn rfl (zG rfl rfl) rfl ?_
  refine stepGI [] (zD rfl rfl rfl) rfl (nb hn rfl) (fun hc => trivial) (fun hc => zN rfl rfl Tryz.underlying87 rfl sz37 rfl) rfl ?_
  refine stepGI [(51, _)] (zD rfl rfl rfl) rfl (nb hn rfl) (fun hc => ⟨⟨_, rfl, hc⟩, trivial⟩) (fun hc => zN rfl rfl Tryz.underlying37 rfl sz3 rfl) rfl ?_
  refine stepGI [(52, _)] (zD rfl rfl rfl) rfl (nb hn rfl) (fun hc => ⟨⟨_, rfl, hc⟩, trivial⟩) (fun hc => zR rfl rfl Tryz.underlying3 rfl seesF0) rfl ?_
  refine stepGI [] (zD rfl rfl rfl) rfl (nb hn rfl) (fun hc => trivial) (fun hc => zN rfl rfl Tryz.underlying180 rfl sz3 rfl) rfl ?_
  refine stepGI [(54, _)] (zD rfl rfl rfl) rfl (nb hn rfl) (fun hc => ⟨⟨_, rfl, hc⟩, trivial⟩) (fun hc => zR rfl rfl Tryz.underlying3 rfl seesF0) rfl ?_
  refine stepGI [(53, _), (55, _)] (zD rfl rfl rfl) rfl (nb hn rfl) (fun hc => ⟨⟨_, rfl, hc⟩, ⟨_, rfl, hc⟩, trivial⟩) (fun hc => zBF rfl rfl rfl) rfl ?_
  refine sqI rfl rfl hn rfl (q_or rfl rfl rfl (by simp_all)) rfl ?_
  refine zu (zi ?_)
  refine yg rfl (fun hb1 => ?_) (fun hb1 => ?_)
  ·
   refine zj ?_
   refine sqI rfl rfl hn rfl (zG rfl rfl) rfl ?_
   refine sqI rfl rfl hn rfl (zN rfl rfl Tryz.underlying180 rfl sz3 rfl) rfl ?_
   refine sqI rfl rfl hn rfl (zR rfl rfl Tryz.underlying3 rfl seesF0) rfl ?_
   refine sqI rfl rfl hn rfl (zN rfl rfl Tryz.underlying180 rfl sz3 rfl) rfl ?_
   refine sqI rfl rfl hn rfl (zR rfl rfl Tryz.underlying3 rfl seesF0) rfl ?_
   refine sqI rfl rfl hn rfl (z6 rfl rfl rfl (r := ((n + 1 : Nat) : Int)) (i64w (by omega) (by omega))) rfl ?_
   refine sqI rfl rfl hn rfl (zN rfl rfl Tryz.underlying180 rfl sz150 rfl) rfl ?_
   refine sqI rfl rfl hn rfl (zR rfl rfl Tryz.underlying150 rfl seesF0) rfl ?_
   refine sqI rfl rfl hn rfl (zg rfl bt180 rfl rfl rfl rfl rfl) rfl ?_
   refine stepWI (s_yield [] (i1) (fun _ => hy _ [spotD d (n + 1) m] i1 (next_second (by simpa using hb1)) hA1) rfl (zI rfl) rfl (nb hn rfl) (fun _ => trivial) rfl rfl (.refl _) rfl (fun _ _ => trivial)) fun ⟨⟨b2, i2⟩, hq1, hq0⟩ => ?_
   refine zu ?_
   exact ret_E (.inr rfl) ⟨i2, by rw [next_len_t (by simpa using hb1)]; cases b2; exact .inr ((hq1 rfl).2 rfl); exact .inl ((hq1 rfl).1 rfl)⟩ (kX rfl) ⟨rfl, trivial⟩
  ·
   refine yi ?_
   exact ret_E (.inr rfl) ⟨i1, .inl (by rw [next_len_f (by simpa using hb1)]; exact hA1)⟩ (kX rfl) ⟨rfl, trivial⟩
/-- What is known is right. -/
def Good (r : Reg) (M : D → D → Prop) : Prop := ∀ x y, M x y → ∃ d n m, x = spotD d n m ∧ y = .bool (goesB r d n m)
def GoesOK (r : Reg) (b k : Nat) : Prop := ∀ (d n m : Nat) (M : D → D → Prop), d ≤ 10 → n ≤ r.entries.length → m < 2 ^ r.entries.length → muS r d n < k → Good r M →
  EffAt Tryz.prog 115 [.d (.ptr (workC r b)), .d (spotD d n m)] [(1000, mapRes KS b M)] (X := {M // Good r M}) (fun _ => .d (.bool (goesB r d n m))) (fun M => [(1000, mapRes KS b M.1)])
theorem zCy {r : Reg} {M : D → D → Prop} {d n m : Nat} (hM : Good r M) (lr : {q : Option D // (∀ x, q = some x → M (spotD d n m) x) ∧ (q = none → ∀ x, ¬ M (spotD d n m) x)}) :
    ∃ xb : Bool, lr.1.getD (.bool false) = .bool xb ∧ (lr.1.isSome = true → xb = goesB r d n m) ∧ (lr.1.isSome = false → xb = false) := by
  obtain ⟨q, h1, h2⟩ := lr
  cases q with
  | none => exact ⟨false, rfl, fun h => (by cases h), fun _ => rfl⟩
  | some x =>
    obtain ⟨d', n', m', e1, e2⟩ := hM _ _ (h1 x rfl)
    have e3 := D.agg.inj e1
    simp only [spotC, List.cons.injEq, D.int.injEq, true_and, and_true, Int.natCast_inj] at e3
    obtain ⟨rfl, rfl, rfl⟩ := e3
    exact ⟨_, e2, fun _ => rfl, fun h => (by cases h)⟩
theorem zDe {r : Reg} {M : D → D → Prop} {d n m : Nat} {x : Bool} (hM : Good r M) (hx : x = goesB r d n m) : Good r (setM M (spotD d n m) (.bool x)) := fun a c h => by
  rcases h with ⟨rfl, rfl⟩ | ⟨_, h⟩
  · exact ⟨d, n, m, rfl, by rw [hx]⟩
  · exact hM a c h
theorem nextXs_len (r : Reg) (d n m : Nat) : ∀ x ∈ nextXs r d n m, x.length = (#[51] : Array Tmp).size := fun x hx => by
  obtain ⟨s, _, rfl⟩ := List.mem_map.1 hx
  rfl
theorem zAr {r : Reg} {d n m j : Nat} {x : List D} (h : (nextXs r d n m)[j]? = some x) : ∃ s, (nextL r d n m)[j]? = some s ∧ x = spotX s := by
  simp only [nextXs, List.getElem?_map, Option.map_eq_some_iff] at h
  obtain ⟨s, h1, h2⟩ := h
  exact ⟨s, h1, h2.symm⟩
theorem zA0 {m m' n k : Nat} (hm : m < 2 ^ k) (hn : n < k) (h : m' = m ∨ m' = m ||| 2 ^ n) : m' < 2 ^ k := by
  rcases h with rfl | rfl
  · exact hm
  · exact Nat.or_lt_two_pow hm (Nat.pow_lt_pow_right (by omega) hn)
theorem goes_step (r : Reg) (v : Valid r) (b k : Nat) (ih : GoesOK r b k) (d n m : Nat) (M : D → D → Prop) (hd : d ≤ 10) (hn6 : n ≤ r.entries.length) (hm : m < 2 ^ r.entries.length) (hk : muS r d n < k + 1) (hM : Good r M) : EffAt Tryz.prog 115 [.d (.ptr (workC r b)), .d (spotD d n m)] [(1000, mapRes KS b M)] (X := {M // Good r M}) (fun _ => .d (.bool (goesB r d n m))) (fun M => [(1000, mapRes KS b M.1)]) := by
 have he6 := v.e6
 have hm64 := lt64 he6 hm
 refine EffAt.of_awpM Tryz.func115 rfl (by kernel_rfl) rfl fun Γ hn => ?_
 refine zC (zB ?_)
 refine stepW (zr 2 rfl rfl rfl (nb hn rfl) rfl rfl) fun b2 => ?_
 refine stepW (zr 3 rfl rfl rfl (nb hn rfl) rfl rfl) fun b3 => ?_
 refine sq rfl rfl hn rfl (zF rfl rfl) ?_
 refine zE (zA (zC (zC ?_)))
 refine zx (zn (t := 2) 2 rfl (nb hn rfl) rfl rfl trivial) ?_
 refine zx (zn (t := 3) 3 rfl (nb hn rfl) rfl rfl trivial) ?_
 refine zB ?_
 refine sq rfl rfl hn rfl (zN rfl rfl Tryz.underlying180 rfl sz3 rfl) ?_
 refine sq rfl rfl hn rfl (zR rfl rfl Tryz.underlying3 rfl seesF0) ?_
 refine sq rfl rfl hn rfl (zBF rfl rfl rfl) ?_
 refine zE (zA ?_)
 refine zS rfl (fun hb0 => ?_) (fun hb0 => ?_)
 ·
  try simp only [decide_eq_true_eq, decide_eq_false_iff_not, Bool.and_eq_true, Bool.or_eq_true, Bool.and_eq_false_iff, Bool.or_eq_false_iff, Bool.not_eq_true', Bool.not_eq_false', beq_iff_eq, bne_iff_ne, ne_eq, beq_eq_false_iff_ne, bne_eq_false_iff_eq, Int.not_lt, Int.not_le] at hb0
  refine zC (zB ?_)
  refine sq rfl rfl hn rfl (zF rfl rfl) ?_
  refine zE (zA (zO (zL ?_)))
  exact ret_M (.inl rfl) ⟨M, hM⟩ (.inl rfl) ((yB rfl (.tmp rfl)).eq (by rw [zCs (by omega)]; rfl)) ⟨rfl, trivial⟩ rfl
 ·
  try simp only [decide_eq_true_eq, decide_eq_false_iff_not, Bool.and_eq_true, Bool.or_eq_true, Bool.and_eq_false_iff, Bool.or_eq_false_iff, Bool.not_eq_true', Bool.not_eq_false', beq_iff_eq, bne_iff_ne, ne_eq, beq_eq_false_iff_ne, bne_eq_false_iff_eq, Int.not_lt, Int.not_le] at hb0
  have hd9 : d ≤ 9 := by omega
  refine zU (zA (zC ?_))
  refine yR (e := .normal) (ι := {x : Nat × Bool × Bool // (x.2.2 = true → x.2.1 = goesB r d n m) ∧ (x.2.2 = false → x.2.1 = false)}) (fun x => (5, true, .val (.pointer (some ⟨x.1.1, 0, none⟩))) :: (6, true, .d (.bool x.1.2.2)) :: anys [14, 15, 16, 17, 18, 19, 13, 20, 21]) (fun x => [(5, .box x.1.1 4 [.d (.bool x.1.2.1)])]) (fun hJ1 => ?_) ?_
  ·
   refine yC (W := fun b => True) fmo ?_
   refine d1q (i := 0) rfl (by kernel_rfl) (fun _ _ _ _ h => h) rfl rfl hn rfl (zR rfl rfl Tryz.underlying147 rfl seesFA) ?_
   refine d1q (i := 1) rfl (by kernel_rfl) (fun _ _ _ _ h => h) rfl rfl hn rfl (z8 rfl rfl) ?_
   refine d1q (i := 2) rfl (by kernel_rfl) (fun _ _ _ _ h => h) rfl rfl hn rfl (zN rfl rfl Tryz.underlying177 rfl sz175 rfl) ?_
   refine d1q (i := 3) rfl (by kernel_rfl) (fun _ _ _ _ h => h) rfl rfl hn rfl (zR rfl rfl Tryz.underlying175 rfl seesFA) ?_
   refine d1q (i := 4) rfl (by kernel_rfl) (fun _ _ _ _ h => h) rfl rfl hn rfl (ze rfl rfl Tryz.underlying180 rfl sz180 rfl rfl seesFA) ?_
   refine zM ?_
   refine yx 5 [9] (by kernel_rfl) ⟨?_, ?_, trivial⟩
   ·
    refine br rfl (zAv (id := 1000) (zd := (.bool false)) rfl rfl rfl (nb hn rfl) kk Tryz.underlying175 zr4 rfl (.d rfl) rfl rfl (zAc hd (by omega) hm64) rfl) fun lr => ?_
    obtain ⟨xb, hx1, hx2⟩ := zCy hM lr
    rw [hx1]
    refine d2_of_d1 ?_
    refine d1q (i := 6) rfl (by kernel_rfl) (fun _ _ _ _ h => h) rfl rfl hn rfl (zG rfl rfl) ?_
    refine d1q (i := 7) rfl (by kernel_rfl) (fun _ _ _ _ h => h) rfl rfl hn rfl (zT rfl rfl rfl) ?_
    refine d1q (i := 8) rfl (by kernel_rfl) (fun _ _ _ _ h => h) rfl rfl hn rfl (zT rfl rfl rfl) ?_
    refine zM ?_
    refine zk (i := 9) (by kernel_rfl) rfl (zh 5 rfl rfl rfl (nb hn rfl) zr4 rfl rfl) fun b5 => ?_
    refine d2_of_d1 (zM ?_)
    refine zk (i := 10) (by kernel_rfl) rfl (s_store1 rfl rfl rfl rfl rfl rfl (id := 5) rfl sz4 (Nat.le_of_ble_eq_true rfl) rfl trivial) fun _ => ?_
    refine d2_of_d1 ?_
    refine d1q (i := 11) rfl (by kernel_rfl) (fun _ _ _ _ h => h) rfl rfl hn rfl (zF rfl rfl) ?_
    refine zM ?_
    refine zv (by kernel_rfl) ?_
    exact aend_join_on hJ1 ⟨(b5, xb, lr.1.isSome), hx2⟩ ⟨.inl rfl, .inl rfl, zJ _⟩ ⟨.inl rfl, trivial⟩ (by repeat (first | exact kr _ | refine kc rfl ?_)) (by repeat (first | exact kr _ | refine kc rfl ?_))
   ·
    refine br rfl (zh 5 rfl rfl rfl (nb hn rfl) zr4 rfl rfl) fun b5 => ?_
    refine d2_of_d1 (zM ?_)
    refine zk (i := 5) (by kernel_rfl) rfl (zAv (id := 1000) (zd := (.bool false)) rfl rfl rfl (nb hn rfl) kk Tryz.underlying175 zr4 rfl (.d rfl) rfl rfl (zAc hd (by omega) hm64) rfl) fun lr => ?_
    obtain ⟨xb, hx1, hx2⟩ := zCy hM lr
    rw [hx1]
    refine d2_of_d1 ?_
    refine d1q (i := 6) rfl (by kernel_rfl) (fun _ _ _ _ h => h) rfl rfl hn rfl (zG rfl rfl) ?_
    refine d1q (i := 7) rfl (by kernel_rfl) (fun _ _ _ _ h => h) rfl rfl hn rfl (zT rfl rfl rfl) ?_
    refine d1q (i := 8) rfl (by kernel_rfl) (fun _ _ _ _ h => h) rfl rfl hn rfl (zT rfl rfl rfl) ?_
    refine zM ?_
    refine zk (i := 10) (by kernel_rfl) rfl (s_store1 rfl rfl rfl rfl rfl rfl (id := 5) rfl sz4 (Nat.le_of_ble_eq_true rfl) rfl trivial) fun _ => ?_
    refine d2_of_d1 ?_
    refine d1q (i := 11) rfl (by kernel_rfl) (fun _ _ _ _ h => h) rfl rfl hn rfl (zF rfl rfl) ?_
    refine zM ?_
    refine zv (by kernel_rfl) ?_
    exact aend_join_on hJ1 ⟨(b5, xb, lr.1.isSome), hx2⟩ ⟨.inl rfl, .inl rfl, zJ _⟩ ⟨.inl rfl, trivial⟩ (by repeat (first | exact kr _ | refine kc rfl ?_)) (by repeat (first | exact kr _ | refine kc rfl ?_))
  ·
   rintro ⟨⟨b5, is, kn⟩, hkn, hkf⟩
   dsimp only
   dsimp only at hkn hkf
   refine zA (zC (zC (zB ?_)))
   refine sq rfl rfl hn rfl (zG rfl rfl) ?_
   refine zE (zA ?_)
   refine zS rfl (fun hb2 => ?_) (fun hb2 => ?_)
   ·
    refine zC (zB ?_)
    refine sq rfl rfl hn rfl (zQ rfl rfl (id := 5) rfl Tryz.underlying4 rfl rfl sees0) ?_
    refine sq rfl rfl hn rfl (zF rfl rfl) ?_
    refine zE (zA (zO (zL ?_)))
    exact ret_M (.inl rfl) ⟨M, hM⟩ (.inl rfl) ((yB rfl (.tmp rfl)).eq (by rw [hkn hb2])) ⟨rfl, trivial⟩ rfl
   ·
    have his : is = false := hkf hb2
    subst his
    refine zU (zA (zC (zC ?_)))
    refine yC (W := fun b => True) fmo ?_
    refine d1q (i := 0) rfl (by kernel_rfl) (fun _ _ _ _ h => h) rfl rfl hn rfl (zN rfl rfl Tryz.underlying180 rfl sz3 rfl) ?_
    refine d1q (i := 1) rfl (by kernel_rfl) (fun _ _ _ _ h => h) rfl rfl hn rfl (zR rfl rfl Tryz.underlying3 rfl seesFA) ?_
    refine d1q (i := 2) rfl (by kernel_rfl) (fun _ _ _ _ h => h) rfl rfl hn rfl (zR rfl rfl Tryz.underlying147 rfl seesFA) ?_
    refine d1q (i := 3) rfl (by kernel_rfl) (fun _ _ _ _ h => h) rfl rfl hn rfl (z8 rfl rfl) ?_
    refine d1q (i := 4) rfl (by kernel_rfl) (fun _ _ _ _ h => h) rfl rfl hn rfl (zN rfl rfl Tryz.underlying177 rfl sz44 rfl) ?_
    refine d1q (i := 5) rfl (by kernel_rfl) (fun _ _ _ _ h => h) rfl rfl hn rfl (zN rfl rfl Tryz.underlying44 rfl sz41 rfl) ?_
    refine d1q (i := 6) rfl (by kernel_rfl) (fun _ _ _ _ h => h) rfl rfl hn rfl (zR rfl rfl Tryz.underlying41 rfl seesFA) ?_
    refine d1q (i := 7) rfl (by kernel_rfl) (fun _ _ _ _ h => h) rfl rfl hn rfl (z7 rfl rfl Tryz.underlying41) ?_
    refine d1q (i := 8) rfl (by kernel_rfl) (fun _ _ _ _ h => h) rfl rfl hn rfl (yG rfl rfl rfl) ?_
    refine zM ?_
    refine zv (by kernel_rfl) ?_
    refine zA ?_
    refine zS rfl (fun hb3 => ?_) (fun hb3 => ?_)
    ·
     try simp only [decide_eq_true_eq, decide_eq_false_iff_not, Bool.and_eq_true, Bool.or_eq_true, Bool.and_eq_false_iff, Bool.or_eq_false_iff, Bool.not_eq_true', Bool.not_eq_false', beq_iff_eq, bne_iff_ne, ne_eq, beq_eq_false_iff_ne, bne_eq_false_iff_eq, Int.not_lt, Int.not_le] at hb3
     have hnl : n = r.entries.length := by simp only [List.length_map] at hb3; omega
     subst hnl
     refine zC (zB ?_)
     refine sq rfl rfl hn rfl (zR rfl rfl Tryz.underlying147 rfl seesF0) ?_
     refine sq rfl rfl hn rfl (ze rfl rfl Tryz.underlying180 rfl sz180 rfl rfl seesF0) ?_
     refine stepW (s_call [] (fun _ => zBW r b d _ m v hd9 hm64) rfl (zI rfl) rfl (nb hn rfl) (fun _ => trivial) rfl rfl (.refl _)) fun _ => ?_
     refine sq rfl rfl hn rfl (zG rfl rfl) ?_
     refine sq rfl rfl hn rfl (zT rfl rfl rfl) ?_
     refine sq rfl rfl hn rfl (zT rfl rfl rfl) ?_
     refine stepW (zh 7 rfl rfl rfl (nb hn rfl) zr180 rfl rfl) fun b7 => ?_
     refine stepW (zl rfl rfl rfl rfl rfl rfl (id := 7) rfl sz180 rfl (Nat.le_of_ble_eq_true rfl) rfl trivial) fun _ => ?_
     refine sq rfl rfl hn rfl (zF rfl rfl) ?_
     refine zE (zA (zB ?_))
     refine sq rfl rfl hn rfl (zG rfl rfl) ?_
     refine sq rfl rfl hn rfl (zG rfl rfl) ?_
     refine stepG [] (zD rfl rfl rfl) rfl (nb hn rfl) (fun hc => trivial) (fun hc => zR rfl rfl Tryz.underlying147 rfl seesF0) ?_
     refine stepG [] (zD rfl rfl rfl) rfl (nb hn rfl) (fun hc => trivial) (fun hc => zY rfl rfl (id := 7) rfl Tryz.underlying180 rfl sz180 rfl rfl sees0) ?_
     refine stepW (s_callEg [(41, _), (42, _)] ⟨M, hM⟩ (fun hc => ih (d + 1) 0 m M (by omega) (by omega) hm (by have := kp (r := r) (n := r.entries.length) hd9; omega) hM) rfl (zD rfl rfl rfl) rfl (nb hn rfl) (fun hc => ⟨⟨_, rfl, hc⟩, ⟨_, rfl, hc⟩, trivial⟩) (.d rfl) rfl (.refl _) ⟨rfl, trivial⟩ (fun _ => rfl) (fun _ _ => trivial) ⟨rfl, trivial⟩) fun ⟨⟨M1, hM1⟩, hc1⟩ => ?_
     refine sq rfl rfl hn rfl (zy rfl rfl rfl (by simp_all)) ?_
     refine stepW (s_store1 rfl rfl rfl rfl rfl rfl (id := 5) rfl sz4 (Nat.le_of_ble_eq_true rfl) rfl trivial) fun _ => ?_
     refine zE (zA (zC ?_))
     refine zx (zn (t := 5) 5 rfl (nb hn rfl) rfl rfl trivial) ?_
     refine yC (W := fun b => True) fmo ?_
     refine d1q (i := 0) rfl (by kernel_rfl) (fun _ _ _ _ h => h) rfl rfl hn rfl (zR rfl rfl Tryz.underlying147 rfl seesFA) ?_
     refine d1q (i := 1) rfl (by kernel_rfl) (fun _ _ _ _ h => h) rfl rfl hn rfl (z8 rfl rfl) ?_
     refine d1q (i := 2) rfl (by kernel_rfl) (fun _ _ _ _ h => h) rfl rfl hn rfl (zN rfl rfl Tryz.underlying177 rfl sz175 rfl) ?_
     refine d1q (i := 3) rfl (by kernel_rfl) (fun _ _ _ _ h => h) rfl rfl hn rfl (zR rfl rfl Tryz.underlying175 rfl seesFA) ?_
     refine d1q (i := 4) rfl (by kernel_rfl) (fun _ _ _ _ h => h) rfl rfl hn rfl (ze rfl rfl Tryz.underlying180 rfl sz180 rfl rfl seesFA) ?_
     refine d1q (i := 5) rfl (by kernel_rfl) (fun _ _ _ _ h => h) rfl rfl hn rfl (zR rfl rfl Tryz.underlying4 rfl seesFA) ?_
     refine zM ?_
     refine zk (i := 6) (by kernel_rfl) rfl (kV (id := 1000) rfl rfl rfl kk Tryz.underlying175 (.d rfl) rfl rfl (zAc hd (by omega) hm64) rfl rfl rfl rfl trivial) fun _ => ?_
     refine d2_of_d1 (zM ?_)
     refine zv (by kernel_rfl) ?_
     refine zA (zC (zB ?_))
     refine sq rfl rfl hn rfl (zR rfl rfl Tryz.underlying4 rfl seesF0) ?_
     refine sq rfl rfl hn rfl (zF rfl rfl) ?_
     refine zE (zA (zO ?_))
     exact ret_M (.inl rfl) ⟨_, zDe hM1 (kK hd9).symm⟩ (.inl rfl) ((yB rfl (.tmp rfl)).eq (by rw [kK (by omega)])) ⟨rfl, trivial⟩ rfl
    ·
     try simp only [decide_eq_true_eq, decide_eq_false_iff_not, Bool.and_eq_true, Bool.or_eq_true, Bool.and_eq_false_iff, Bool.or_eq_false_iff, Bool.not_eq_true', Bool.not_eq_false', beq_iff_eq, bne_iff_ne, ne_eq, beq_eq_false_iff_ne, bne_eq_false_iff_eq, Int.not_lt, Int.not_le] at hb3
     have hnl : n < r.entries.length := by simp only [List.length_map] at hb3; omega
     obtain ⟨e, he⟩ := z2 hnl
     refine zC ?_
     refine yC (W := fun b => True) fmo ?_
     refine d1q (i := 0) rfl (by kernel_rfl) (fun _ _ _ _ h => h) rfl rfl hn rfl (zR rfl rfl Tryz.underlying147 rfl seesFA) ?_
     refine d1q (i := 1) rfl (by kernel_rfl) (fun _ _ _ _ h => h) rfl rfl hn rfl (z8 rfl rfl) ?_
     refine d1q (i := 2) rfl (by kernel_rfl) (fun _ _ _ _ h => h) rfl rfl hn rfl (zN rfl rfl Tryz.underlying177 rfl sz44 rfl) ?_
     refine d1q (i := 3) rfl (by kernel_rfl) (fun _ _ _ _ h => h) rfl rfl hn rfl (ze rfl rfl Tryz.underlying44 rfl sz44 rfl rfl seesFA) ?_
     refine d1q (i := 4) rfl (by kernel_rfl) (fun _ _ _ _ h => h) rfl rfl hn rfl (ze rfl rfl Tryz.underlying180 rfl sz180 rfl rfl seesFA) ?_
     refine zM ?_
     refine zk (i := 5) (by kernel_rfl) rfl (s_call [] (fun _ => zDO _ _ _ _) rfl (zI rfl) rfl (nb hn rfl) (fun _ => trivial) rfl rfl (.refl _)) fun _ => ?_
     refine d2_of_d1 (zM ?_)
     refine zv (by kernel_rfl) ?_
     refine zA (zV ?_)
     refine awp_rangeFunc (ι := {x : Bool × (D → D → Prop) // Good r x.2}) (fun x => [(5, .box b5 4 [.d (.bool x.1.1)]), (1000, mapRes KS b x.1.2)]) (fun j x => x.1.1 = ((nextL r d n m).take j).any fun s => goesB r s.1 s.2.1 s.2.2) (fun _ _ => False) ⟨(false, M), hM⟩ ((zBz r d n m e he v hd9 (by omega) hm64)) rfl (nextXs_len r d n m) (by rw [hn]; rfl) (.inl rfl) ⟨rfl, rfl, trivial⟩ rfl (fun _ => rfl) (fun _ => rfl) rfl rfl ?_ ?_ ?_
     ·
      rintro l0 r0 Γr j0 x0 ⟨⟨is1, M1⟩, hM1⟩ hnr hrd hx0 hA0
      dsimp only at hA0
      obtain ⟨s, hs, rfl⟩ := zAr hx0
      have hsm := y8 (List.mem_of_getElem? hs)
      obtain ⟨s1, s2, s3⟩ := s
      obtain rfl : d = s1 := hsm.1.symm
      obtain rfl : n + 1 = s2 := hsm.2.1.symm
      have hs3 := hsm.2.2.1
      dsimp only at hs3
      have hs3b : s3 < 2 ^ r.entries.length := zA0 hm hnl hs3
      refine zj ?_
      refine stepWI ((zh 9 rfl rfl rfl (nb (hnr.trans hn) rfl) zr180 rfl rfl).i rfl) fun b9 => ?_
      refine stepWI ((zl rfl rfl rfl rfl rfl rfl (id := 9) rfl sz180 rfl (Nat.le_of_ble_eq_true rfl) rfl trivial).i rfl) fun _ => ?_
      refine zu ?_
      refine aend_begin hrd rfl ?_
      refine yv (zj ?_)
      refine sqI rfl rfl (hnr.trans hn) rfl (zQ rfl rfl (id := 5) rfl Tryz.underlying4 rfl rfl sees0) rfl ?_
      refine sqI rfl rfl (hnr.trans hn) rfl (zG rfl rfl) rfl ?_
      refine stepGI [] (zD rfl rfl rfl) rfl (nb (hnr.trans hn) rfl) (fun hc => trivial) (fun hc => zR rfl rfl Tryz.underlying147 rfl seesF0) rfl ?_
      refine stepGI [] (zD rfl rfl rfl) rfl (nb (hnr.trans hn) rfl) (fun hc => trivial) (fun hc => zY rfl rfl (id := 9) rfl Tryz.underlying180 rfl sz180 rfl rfl sees0) rfl ?_
      refine stepWI ((s_callEg [(54, _), (55, _)] ⟨M1, hM1⟩ (fun hc => ih d (n + 1) s3 M1 hd (by omega) hs3b (by have := kR (r := r) hd9 hnl; omega) hM1) rfl (zD rfl rfl rfl) rfl (nb (hnr.trans hn) rfl) (fun hc => ⟨⟨_, rfl, hc⟩, ⟨_, rfl, hc⟩, trivial⟩) (.d rfl) rfl (.refl _) ⟨rfl, trivial⟩ (fun _ => rfl) (fun _ _ => trivial) ⟨rfl, trivial⟩).i rfl) fun ⟨⟨M2, hM2⟩, hc2⟩ => ?_
      refine sqI rfl rfl (hnr.trans hn) rfl (q_or rfl rfl rfl (by simp_all)) rfl ?_
      refine stepWI ((s_store1 rfl rfl rfl rfl rfl rfl (id := 5) rfl sz4 (Nat.le_of_ble_eq_true rfl) rfl trivial).i rfl) fun _ => ?_
      refine zu (za ?_)
      exact y9 ⟨(is1 || goesB r d (n + 1) s3, M2), hM2⟩ (by show _ = _; rw [any_take hs, ← hA0]) ⟨rfl, rfl, rfl, trivial⟩
     ·
      rintro ⟨⟨is1, M1⟩, hM1⟩ D0 hA0
      rw [show (nextXs r d n m).length = (nextL r d n m).length by simp [nextXs], List.take_length, ← kq hd9 hnl] at hA0
      dsimp only at hA0
      subst hA0
      refine za (zA (zC ?_))
      refine zx (zn (t := 5) 5 rfl (nb hn rfl) rfl rfl trivial) ?_
      refine yC (W := fun b => True) fmo ?_
      refine d1q (i := 0) rfl (by kernel_rfl) (fun _ _ _ _ h => h) rfl rfl hn rfl (zR rfl rfl Tryz.underlying147 rfl seesFA) ?_
      refine d1q (i := 1) rfl (by kernel_rfl) (fun _ _ _ _ h => h) rfl rfl hn rfl (z8 rfl rfl) ?_
      refine d1q (i := 2) rfl (by kernel_rfl) (fun _ _ _ _ h => h) rfl rfl hn rfl (zN rfl rfl Tryz.underlying177 rfl sz175 rfl) ?_
      refine d1q (i := 3) rfl (by kernel_rfl) (fun _ _ _ _ h => h) rfl rfl hn rfl (zR rfl rfl Tryz.underlying175 rfl seesFA) ?_
      refine d1q (i := 4) rfl (by kernel_rfl) (fun _ _ _ _ h => h) rfl rfl hn rfl (ze rfl rfl Tryz.underlying180 rfl sz180 rfl rfl seesFA) ?_
      refine d1q (i := 5) rfl (by kernel_rfl) (fun _ _ _ _ h => h) rfl rfl hn rfl (zR rfl rfl Tryz.underlying4 rfl seesFA) ?_
      refine zM ?_
      refine zk (i := 6) (by kernel_rfl) rfl (kV (id := 1000) rfl rfl rfl kk Tryz.underlying175 (.d rfl) rfl rfl (zAc hd (by omega) hm64) rfl rfl rfl rfl trivial) fun _ => ?_
      refine d2_of_d1 (zM ?_)
      refine zv (by kernel_rfl) ?_
      refine zA (zC (zB ?_))
      refine sq rfl rfl hn rfl (zR rfl rfl Tryz.underlying4 rfl seesF0) ?_
      refine sq rfl rfl hn rfl (zF rfl rfl) ?_
      refine zE (zA (zO ?_))
      exact ret_M (.inl rfl) ⟨_, zDe hM1 rfl⟩ (.inr rfl) ((yB rfl (.tmp rfl)).eq rfl) ⟨rfl, trivial⟩ rfl
     ·
      exact fun _ _ _ h => h.elim
end Go.Proofs.YtaokpncjemkhcaaGreat
namespace Go.Proofs.YtaokpncjemkhcaaGreat
open Go.RowKit
set_option maxRecDepth 20000
set_option linter.all false
theorem goes_all (r : Reg) (v : Valid r) (b : Nat) : ∀ k, GoesOK r b k := by
  intro k
  induction k with
  | zero => intro d n m M _ _ _ h; omega
  | succ k ih => intro d n m M h1 h2 h3 h4 h5; exact goes_step r v b k ih d n m M h1 h2 h3 h4 h5
theorem zC8 (r : Reg) (v : Valid r) (b d n m : Nat) (M : D → D → Prop) (hd : d ≤ 10) (hn : n ≤ r.entries.length) (hm : m < 2 ^ r.entries.length) (hM : Good r M) :
    EffAt Tryz.prog 115 [.d (.ptr (workC r b)), .d (spotD d n m)] [(1000, mapRes KS b M)] (X := {M // Good r M}) (fun _ => .d (.bool (goesB r d n m))) (fun M => [(1000, mapRes KS b M.1)]) :=
  goes_all r v b _ d n m M hd hn hm (Nat.lt_succ_self _) hM
abbrev Spots := Nat → Nat → Nat → Prop
/-- Where the walk goes on from a spot: it ends with the evening N. -/
def succL (r : Reg) (N d n m : Nat) : List (Nat × Nat × Nat) := if n < r.entries.length then nextL r d n m else if d = N then [] else [(d + 1, 0, m)]
/-- What can be reached, all that is left being possible. -/
inductive Rch (r : Reg) (N : Nat) : Spots
  | start (h : goesB r 0 0 0 = true) : Rch r N 0 0 0
  | step {d n m : Nat} {s : Nat × Nat × Nat} (h : Rch r N d n m) (hs : s ∈ succL r N d n m) (hg : goesB r s.1 s.2.1 s.2.2 = true) : Rch r N s.1 s.2.1 s.2.2
theorem Rch.bd {r : Reg} {N d n m : Nat} (h : Rch r N d n m) (hN : N ≤ 9) : d ≤ N ∧ n ≤ r.entries.length ∧ m < 2 ^ r.entries.length := by
  induction h with
  | start => exact ⟨by omega, by omega, Nat.two_pow_pos _⟩
  | step _ hs _ ih =>
    unfold succL at hs
    split at hs
    · obtain ⟨e1, e2, e3, e4⟩ := y8 hs
      exact ⟨by omega, by omega, zA0 ih.2.2 e4 e3⟩
    · split at hs
      · cases hs
      · rw [List.mem_singleton] at hs
        subst hs
        exact ⟨by dsimp only; omega, by dsimp only; omega, ih.2.2⟩
theorem zDU : ∀ (n : Nat) (l : List Nat), l.Nodup → (∀ x ∈ l, x < n) → l.length ≤ n
  | 0, l, _, h => by cases l with
    | nil => simp
    | cons x l => exact absurd (h x (by simp)) (by omega)
  | n + 1, l, hn, h => by
    have h1 := zDU n (l.filter (fun x => x != n)) (hn.filter _) (fun x hx => by
      rw [List.mem_filter] at hx
      have := h x hx.1
      have h2 : x ≠ n := by simpa using hx.2
      omega)
    have h2 : l.length ≤ (l.filter (fun x => x != n)).length + 1 := by
      clear h1 h
      induction l with
      | nil => simp
      | cons y l ih =>
        have hn' := List.nodup_cons.1 hn
        by_cases e : y = n
        · subst e
          have : l.filter (fun x => x != y) = l := List.filter_eq_self.2 fun x hx => by
            have : x ≠ y := fun e => hn'.1 (e ▸ hx)
            simpa using this
          simp [this]
        · have hy : (y != n) = true := by simpa using e
          rw [List.filter_cons, hy]
          simp only [if_true, List.length_cons]
          have := ih hn'.2
          omega
    omega
def VOK (r : Reg) (N : Nat) (Vis : Spots) (out : List Nat) : Prop := (∀ d n m, Vis d n m → Rch r N d n m) ∧ (∀ m, m ∈ out ↔ Vis N r.entries.length m) ∧ out.Nodup
def ClosedUp (r : Reg) (N : Nat) (Vis Vis' : Spots) : Prop := ∀ a b c, Vis' a b c → ¬ Vis a b c → ∀ s ∈ succL r N a b c, goesB r s.1 s.2.1 s.2.2 = true → Vis' s.1 s.2.1 s.2.2
/-- What a walk from a spot leaves. -/
def WPost (r : Reg) (N : Nat) (Vis : Spots) (d n m : Nat) (Vis' : Spots) (out' : List Nat) : Prop :=
  VOK r N Vis' out' ∧ (∀ a b c, Vis a b c → Vis' a b c) ∧ (goesB r d n m = true → Vis' d n m) ∧ ClosedUp r N Vis Vis'
def addV (Vis : Spots) (d n m : Nat) : Spots := fun a b c => Vis a b c ∨ (a = d ∧ b = n ∧ c = m)
/-- The same in the midst of it, some of the next ones being done. -/
def WMid (r : Reg) (N : Nat) (Vis1 : Spots) (ss : List (Nat × Nat × Nat)) (Vis' : Spots) (out' : List Nat) : Prop :=
  VOK r N Vis' out' ∧ (∀ a b c, Vis1 a b c → Vis' a b c) ∧ (∀ s ∈ ss, goesB r s.1 s.2.1 s.2.2 = true → Vis' s.1 s.2.1 s.2.2) ∧ ClosedUp r N Vis1 Vis'
theorem zDo {r : Reg} {N : Nat} {Vis1 Vis' Vis'' : Spots} {ss : List (Nat × Nat × Nat)} {out' out'' : List Nat} {d n m : Nat} (h : WMid r N Vis1 ss Vis' out') (k : WPost r N Vis' d n m Vis'' out'') : WMid r N Vis1 (ss ++ [(d, n, m)]) Vis'' out'' := by
  obtain ⟨h1, h2, h3, h4⟩ := h
  obtain ⟨k1, k2, k3, k4⟩ := k
  refine ⟨k1, fun a b c ha => k2 a b c (h2 a b c ha), fun s hs hg => ?_, fun a b c ha hna s hs hg => ?_⟩
  · rcases List.mem_append.1 hs with hs | hs
    · exact k2 _ _ _ (h3 s hs hg)
    · rw [List.mem_singleton] at hs
      subst hs
      exact k3 hg
  · by_cases hv : Vis' a b c
    · exact k2 _ _ _ (h4 a b c hv hna s hs hg)
    · exact k4 a b c ha hv s hs hg
theorem zEM {r : Reg} {N : Nat} {Vis Vis' : Spots} {out' : List Nat} {d n m : Nat} (h : WMid r N (addV Vis d n m) (succL r N d n m) Vis' out') : WPost r N Vis d n m Vis' out' := by
  obtain ⟨h1, h2, h3, h4⟩ := h
  refine ⟨h1, fun a b c ha => h2 a b c (.inl ha), fun _ => h2 d n m (.inr ⟨rfl, rfl, rfl⟩), fun a b c ha hna s hs hg => ?_⟩
  by_cases he : a = d ∧ b = n ∧ c = m
  · obtain ⟨rfl, rfl, rfl⟩ := he
    exact h3 s hs hg
  · exact h4 a b c ha (fun hv => hv.elim hna he) s hs hg
theorem zBO {r : Reg} {N : Nat} {Vis : Spots} {out : List Nat} {d n m : Nat} (h : VOK r N Vis out) (hr : Rch r N d n m) (hne : ¬ (d = N ∧ n = r.entries.length)) : WMid r N (addV Vis d n m) [] (addV Vis d n m) out :=
  ⟨⟨fun a b c ha => ha.elim (h.1 a b c) (fun ⟨e1, e2, e3⟩ => by rw [e1, e2, e3]; exact hr), fun x => (h.2.1 x).trans ⟨.inl, fun hx => hx.resolve_right fun ⟨e1, e2, _⟩ => hne ⟨e1.symm, e2.symm⟩⟩, h.2.2⟩, fun _ _ _ h => h, fun s hs => (by cases hs), fun a b c ha hna => (hna ha).elim⟩
theorem post_seen {r : Reg} {N : Nat} {Vis : Spots} {out : List Nat} {d n m : Nat} (h : VOK r N Vis out) (hs : goesB r d n m = true → Vis d n m) : WPost r N Vis d n m Vis out :=
  ⟨h, fun _ _ _ h => h, hs, fun a b c ha hna => (hna ha).elim⟩
theorem post_end {r : Reg} {N : Nat} {Vis : Spots} {out : List Nat} {m : Nat} (h : VOK r N Vis out) (hr : Rch r N N r.entries.length m) (hnv : ¬ Vis N r.entries.length m) : WPost r N Vis N r.entries.length m (addV Vis N r.entries.length m) (out ++ [m]) := by
  refine ⟨⟨fun a b c ha => ha.elim (h.1 a b c) (fun ⟨e1, e2, e3⟩ => by rw [e1, e2, e3]; exact hr), fun x => ?_, ?_⟩, fun _ _ _ => .inl, fun _ => .inr ⟨rfl, rfl, rfl⟩, fun a b c ha hna s hs _ => ?_⟩
  · rw [List.mem_append, h.2.1 x, List.mem_singleton]
    exact ⟨fun hx => hx.imp id (fun e => ⟨rfl, rfl, e⟩), fun hx => hx.imp id (fun e => e.2.2)⟩
  · rw [List.nodup_append]
    refine ⟨h.2.2, by simp, fun x hx y hy => ?_⟩
    rw [List.mem_singleton] at hy
    subst hy
    intro e
    subst e
    exact hnv ((h.2.1 x).1 hx)
  · obtain ⟨rfl, rfl, rfl⟩ := ha.resolve_left hna
    simp [succL] at hs
/-- The spots where the walk has been, as a map. -/
def visM (Vis : Spots) (x y : D) : Prop := ∃ d n m, Vis d n m ∧ x = spotD d n m ∧ y = .bool true
theorem spotD_inj {d n m d' n' m' : Nat} (h : spotD d n m = spotD d' n' m') : d = d' ∧ n = n' ∧ m = m' := by
  have e3 := D.agg.inj h
  simpa only [spotC, List.cons.injEq, D.int.injEq, true_and, and_true, Int.natCast_inj] using e3
theorem vis_set (Vis : Spots) (d n m : Nat) : setM (visM Vis) (spotD d n m) (.bool true) = visM (addV Vis d n m) := by
  funext x y
  refine propext ⟨fun h => ?_, fun ⟨a, b, c, h, e1, e2⟩ => ?_⟩
  · rcases h with ⟨e1, e2⟩ | ⟨_, a, b, c, h, e1, e2⟩
    · exact ⟨d, n, m, .inr ⟨rfl, rfl, rfl⟩, e1, e2⟩
    · exact ⟨a, b, c, .inl h, e1, e2⟩
  · by_cases he : x = spotD d n m
    · exact .inl ⟨he, e2⟩
    · rcases h with h | ⟨rfl, rfl, rfl⟩
      · exact .inr ⟨he, a, b, c, h, e1, e2⟩
      · exact (he e1).elim
theorem vis_none : visM (fun _ _ _ => False) = fun _ _ => False := by
  funext x y
  exact propext ⟨fun ⟨_, _, _, h, _⟩ => h, fun h => h.elim⟩
theorem vis_look {Vis : Spots} {d n m : Nat} (lr : {q : Option D // (∀ x, q = some x → visM Vis (spotD d n m) x) ∧ (q = none → ∀ x, ¬ visM Vis (spotD d n m) x)}) : ∃ xb : Bool, lr.1.getD (.bool false) = .bool xb ∧ (xb = true → Vis d n m) ∧ (xb = false → ¬ Vis d n m) := by
  obtain ⟨q, h1, h2⟩ := lr
  cases q with
  | none => exact ⟨false, rfl, fun h => (by cases h), fun _ hv => h2 rfl _ ⟨d, n, m, hv, rfl, rfl⟩⟩
  | some x =>
    obtain ⟨a, b, c, hv, e1, e2⟩ := h1 x rfl
    obtain ⟨rfl, rfl, rfl⟩ := spotD_inj e1
    exact ⟨true, e2, fun _ => hv, fun h => (by cases h)⟩
@[reducible] def walkCa (r : Reg) (b b2 b3 b5 N : Nat) : List TV := [.d (.ptr [.raw (.map (some b2))]), .d (.ptr [.ptr (workC r b)]), .val (.pointer (some ⟨b3, 0, none⟩)), .d (.ptr [.int .i64 (N : Nat)]), .val (.pointer (some ⟨b5, 0, none⟩))]
@[reducible] def walkRs (r : Reg) (b b2 b3 b5 N : Nat) (M : D → D → Prop) (Vis : Spots) (out : List Nat) (v : Value) : List (Nat × Res) :=
  [(1000, mapRes KS b M), (1001, mapRes KS b2 (visM Vis)), (1002, .box b3 178 [.fn (.func 114) [] (walkCa r b b2 b3 b5 N)]), (1003, .box b5 107 [.val v]), (1004, .row v 150 1 (out.map doneE))]
def WX (r : Reg) (N : Nat) (Vis : Spots) (d n m : Nat) : Type := {x : (D → D → Prop) × Spots × List Nat × Value // Good r x.1 ∧ WPost r N Vis d n m x.2.1 x.2.2.1}
def WalksOK (r : Reg) (b b2 b3 b5 N k : Nat) : Prop := ∀ (d n m : Nat) (M : D → D → Prop) (Vis : Spots) (out : List Nat) (v : Value), d ≤ N → n ≤ r.entries.length → m < 2 ^ r.entries.length → muS r d n < k → Good r M → VOK r N Vis out → (goesB r d n m = true → Rch r N d n m) →
  EffAt Tryz.prog 114 (.d (spotD d n m) :: walkCa r b b2 b3 b5 N) (walkRs r b b2 b3 b5 N M Vis out v) (X := WX r N Vis d n m) (fun _ => .d (.tup [])) (fun x => walkRs r b b2 b3 b5 N x.1.1 x.1.2.1 x.1.2.2.1 x.1.2.2.2)
theorem zEG {r : Reg} {N : Nat} {Vis : Spots} {out : List Nat} (v : Valid r) (hN : N ≤ 9) (h : VOK r N Vis out) : out.length ≤ 64 := by
  refine zDU 64 out h.2.2 fun x hx => ?_
  have h1 := ((h.1 _ _ _ ((h.2.1 x).1 hx)).bd hN).2.2
  have h2 : 2 ^ r.entries.length ≤ 2 ^ 6 := Nat.pow_le_pow_right (by omega) v.e6
  omega
theorem sz107 : Sz Tryz.prog 107 1 := (by kernel_rfl : (Tryz.prog.info? 107).map (·.size) = some 1)
theorem zr150 : (Tryz.prog.info? 150).map (·.zero) = some (some (.int .u64 0)) := by kernel_rfl
theorem elt107 : ElT Tryz.prog 107 150 1 8 := zAs Tryz.underlying107 (z := (.int .u64 0)) (by kernel_rfl) rfl (by decide)
theorem nextXs_len36 (r : Reg) (d n m : Nat) : ∀ x ∈ nextXs r d n m, x.length = (#[36] : Array Tmp).size := fun x hx => by
  obtain ⟨s, _, rfl⟩ := List.mem_map.1 hx
  rfl
theorem fill_nat64 {x : Nat} {zs : List TV} (hz : zs.length = 1) : fillTV (fun i => some (i * 1, 1)) zs [(0, .d (.int .u64 (x : Nat)))] = some [.d (.int .u64 (x : Nat))] := fill_d hz rfl rfl rfl
theorem walk_step (r : Reg) (v : Valid r) (b b2 b3 b5 N k : Nat) (hN : N ≤ 9) (ih : WalksOK r b b2 b3 b5 N k) (d n m : Nat) (M : D → D → Prop) (Vis : Spots) (out : List Nat) (vo : Value) (hd : d ≤ N) (hn6 : n ≤ r.entries.length) (hm : m < 2 ^ r.entries.length) (hk : muS r d n < k + 1) (hM : Good r M) (hV : VOK r N Vis out) (hRT : goesB r d n m = true → Rch r N d n m) : EffAt Tryz.prog 114 (.d (spotD d n m) :: walkCa r b b2 b3 b5 N) (walkRs r b b2 b3 b5 N M Vis out vo) (X := WX r N Vis d n m) (fun _ => .d (.tup [])) (fun x => walkRs r b b2 b3 b5 N x.1.1 x.1.2.1 x.1.2.2.1 x.1.2.2.2) := by
 have he6 := v.e6
 have hm64 := lt64 he6 hm
 have ho64 := zEG v hN hV
 refine EffAt.of_awpM Tryz.func114 rfl (by kernel_rfl) rfl fun Γ hn => ?_
 refine zC (zB ?_)
 refine stepW (zr 6 rfl rfl rfl (nb hn rfl) rfl rfl) fun b6 => ?_
 refine zE (zA (zC (zC ?_)))
 refine zx (zn (t := 6) 6 rfl (nb hn rfl) rfl rfl trivial) ?_
 refine zB ?_
 refine sq rfl rfl hn rfl (zR rfl rfl Tryz.underlying175 rfl seesF0) ?_
 refine sq rfl rfl hn rfl (ze rfl rfl Tryz.underlying180 rfl sz180 rfl rfl seesF0) ?_
 refine stepW (zAv (id := 1001) (zd := (.bool false)) rfl rfl rfl (nb hn rfl) kk Tryz.underlying175 zr4 rfl (.d rfl) rfl rfl (zAc (by omega) (by omega) hm64) rfl) fun lr => ?_
 obtain ⟨xb, hx1, hx2, hx3⟩ := vis_look lr
 rw [hx1]
 refine sq rfl rfl hn rfl (zG rfl rfl) ?_
 refine stepG [] (zD rfl rfl rfl) rfl (nb hn rfl) (fun hc => trivial) (fun hc => zR rfl rfl Tryz.underlying147 rfl seesF0) ?_
 refine stepG [] (zD rfl rfl rfl) rfl (nb hn rfl) (fun hc => trivial) (fun hc => ze rfl rfl Tryz.underlying180 rfl sz180 rfl rfl seesF0) ?_
 refine stepW (s_callEg [(14, _), (15, _)] ⟨M, hM⟩ (fun hc => zC8 r v b d n m M (by omega) hn6 hm hM) rfl (zD rfl rfl rfl) rfl (nb hn rfl) (fun hc => ⟨⟨_, rfl, hc⟩, ⟨_, rfl, hc⟩, trivial⟩) (.d rfl) rfl (.refl _) ⟨rfl, trivial⟩ (fun _ => rfl) (fun _ _ => trivial) ⟨rfl, trivial⟩) fun ⟨⟨M1, hM1⟩, hc1⟩ => ?_
 refine stepG [(16, _)] (zD rfl rfl rfl) rfl (nb hn rfl) (fun hc => ⟨⟨_, rfl, hc⟩, trivial⟩) (fun hc => yF rfl rfl) ?_
 refine sq rfl rfl hn rfl (q_or rfl rfl rfl (by simp_all)) ?_
 refine zE (zA ?_)
 refine zS rfl (fun hb0 => ?_) (fun hb0 => ?_)
 ·
  have hpo : WPost r N Vis d n m Vis out := post_seen hV fun hg => by cases xb with
   | true => exact hx2 rfl
   | false => rw [hg] at hb0; simp at hb0
  refine zO (zL ?_)
  exact ret_M (.inl rfl) ⟨(M1, Vis, out, vo), hM1, hpo⟩ (.inl rfl) (kX rfl) ⟨rfl, rfl, rfl, rfl, rfl, trivial⟩ rfl
 ·
  obtain ⟨rfl, hg⟩ : xb = false ∧ goesB r d n m = true := by cases xb <;> simp at hb0 ⊢; exact hb0
  have hnv := hx3 rfl
  have hrt := hRT hg
  refine zU (zA (zC (zB ?_)))
  refine sq rfl rfl hn rfl (zR rfl rfl Tryz.underlying175 rfl seesF0) ?_
  refine sq rfl rfl hn rfl (ze rfl rfl Tryz.underlying180 rfl sz180 rfl rfl seesF0) ?_
  refine stepW (kV (id := 1001) rfl rfl rfl kk Tryz.underlying175 (.d rfl) rfl rfl (zAc (by omega) (by omega) hm64) rfl rfl rfl (vis_set Vis d n m) trivial) fun _ => ?_
  refine zE (zA (zC (zC ?_)))
  refine yC (W := fun b => True) fmo ?_
  refine d1q (i := 0) rfl (by kernel_rfl) (fun _ _ _ _ h => h) rfl rfl hn rfl (zN rfl rfl Tryz.underlying180 rfl sz3 rfl) ?_
  refine d1q (i := 1) rfl (by kernel_rfl) (fun _ _ _ _ h => h) rfl rfl hn rfl (zR rfl rfl Tryz.underlying3 rfl seesFA) ?_
  refine d1q (i := 2) rfl (by kernel_rfl) (fun _ _ _ _ h => h) rfl rfl hn rfl (zR rfl rfl Tryz.underlying147 rfl seesFA) ?_
  refine d1q (i := 3) rfl (by kernel_rfl) (fun _ _ _ _ h => h) rfl rfl hn rfl (z8 rfl rfl) ?_
  refine d1q (i := 4) rfl (by kernel_rfl) (fun _ _ _ _ h => h) rfl rfl hn rfl (zN rfl rfl Tryz.underlying177 rfl sz44 rfl) ?_
  refine d1q (i := 5) rfl (by kernel_rfl) (fun _ _ _ _ h => h) rfl rfl hn rfl (zN rfl rfl Tryz.underlying44 rfl sz41 rfl) ?_
  refine d1q (i := 6) rfl (by kernel_rfl) (fun _ _ _ _ h => h) rfl rfl hn rfl (zR rfl rfl Tryz.underlying41 rfl seesFA) ?_
  refine d1q (i := 7) rfl (by kernel_rfl) (fun _ _ _ _ h => h) rfl rfl hn rfl (z7 rfl rfl Tryz.underlying41) ?_
  refine d1q (i := 8) rfl (by kernel_rfl) (fun _ _ _ _ h => h) rfl rfl hn rfl (yJ rfl rfl rfl) ?_
  refine zM ?_
  refine zv (by kernel_rfl) ?_
  refine zA ?_
  refine zS rfl (fun hb1 => ?_) (fun hb1 => ?_)
  ·
   try simp only [decide_eq_true_eq, decide_eq_false_iff_not, Bool.and_eq_true, Bool.or_eq_true, Bool.and_eq_false_iff, Bool.or_eq_false_iff, Bool.not_eq_true', Bool.not_eq_false', beq_iff_eq, bne_iff_ne, ne_eq, beq_eq_false_iff_ne, bne_eq_false_iff_eq, Int.not_lt, Int.not_le] at hb1
   have hnl : n < r.entries.length := by simp only [List.length_map] at hb1; omega
   obtain ⟨e, he⟩ := z2 hnl
   have hne : ¬ (d = N ∧ n = r.entries.length) := by omega
   refine zC (zC ?_)
   refine yC (W := fun b => True) fmo ?_
   refine d1q (i := 0) rfl (by kernel_rfl) (fun _ _ _ _ h => h) rfl rfl hn rfl (zR rfl rfl Tryz.underlying147 rfl seesFA) ?_
   refine d1q (i := 1) rfl (by kernel_rfl) (fun _ _ _ _ h => h) rfl rfl hn rfl (z8 rfl rfl) ?_
   refine d1q (i := 2) rfl (by kernel_rfl) (fun _ _ _ _ h => h) rfl rfl hn rfl (zN rfl rfl Tryz.underlying177 rfl sz44 rfl) ?_
   refine d1q (i := 3) rfl (by kernel_rfl) (fun _ _ _ _ h => h) rfl rfl hn rfl (ze rfl rfl Tryz.underlying44 rfl sz44 rfl rfl seesFA) ?_
   refine d1q (i := 4) rfl (by kernel_rfl) (fun _ _ _ _ h => h) rfl rfl hn rfl (ze rfl rfl Tryz.underlying180 rfl sz180 rfl rfl seesFA) ?_
   refine zM ?_
   refine zk (i := 5) (by kernel_rfl) rfl (s_call [] (fun _ => zDO _ _ _ _) rfl (zI rfl) rfl (nb hn rfl) (fun _ => trivial) rfl rfl (.refl _)) fun _ => ?_
   refine d2_of_d1 (zM ?_)
   refine zv (by kernel_rfl) ?_
   refine zA (zV ?_)
   refine awp_rangeFunc (ι := {x : (D → D → Prop) × Spots × List Nat × Value // Good r x.1}) (fun x => [(1000, mapRes KS b x.1.1), (1001, mapRes KS b2 (visM x.1.2.1)), (1002, .box b3 178 [.fn (.func 114) [] (walkCa r b b2 b3 b5 N)]), (1003, .box b5 107 [.val x.1.2.2.2]), (1004, .row x.1.2.2.2 150 1 (x.1.2.2.1.map doneE))]) (fun j x => WMid r N (addV Vis d n m) ((nextL r d n m).take j) x.1.2.1 x.1.2.2.1) (fun _ _ => False) ⟨(M1, addV Vis d n m, out, vo), hM1⟩ ((zBz r d n m e he v (by omega) (by omega) hm64)) rfl (nextXs_len36 r d n m) (by rw [hn]; rfl) (.inl rfl) ⟨rfl, rfl, rfl, rfl, rfl, trivial⟩ (zBO hV hrt hne) (fun _ => rfl) (fun _ => rfl) rfl rfl ?_ ?_ ?_
   ·
    rintro l0 r0 Γr j0 x0 ⟨⟨M2, Vis2, out2, vo2⟩, hM2⟩ hnr hrd hx0 hA0
    dsimp only at hA0 hM2
    obtain ⟨s, hs, rfl⟩ := zAr hx0
    have hsm := y8 (List.mem_of_getElem? hs)
    have hsin : s ∈ succL r N d n m := by rw [succL, if_pos hnl]; exact List.mem_of_getElem? hs
    obtain ⟨s1, s2, s3⟩ := s
    obtain rfl : d = s1 := hsm.1.symm
    obtain rfl : n + 1 = s2 := hsm.2.1.symm
    have hs3 := hsm.2.2.1
    dsimp only at hs3
    have hs3b : s3 < 2 ^ r.entries.length := zA0 hm hnl hs3
    refine zj ?_
    refine stepWI ((zh 7 rfl rfl rfl (nb (hnr.trans hn) rfl) zr180 rfl rfl).i rfl) fun b7 => ?_
    refine stepWI ((zl rfl rfl rfl rfl rfl rfl (id := 7) rfl sz180 rfl (Nat.le_of_ble_eq_true rfl) rfl trivial).i rfl) fun _ => ?_
    refine zu ?_
    refine aend_begin hrd rfl ?_
    refine yv (zj ?_)
    refine sqI rfl rfl (hnr.trans hn) rfl (zQ rfl rfl (id := 1002) rfl Tryz.underlying178 rfl rfl sees0) rfl ?_
    refine sqI rfl rfl (hnr.trans hn) rfl (zY rfl rfl (id := 7) rfl Tryz.underlying180 rfl sz180 rfl rfl sees0) rfl ?_
    refine stepWI ((s_callE (ih d (n + 1) s3 M2 Vis2 out2 vo2 hd (by omega) hs3b (by have := kR (r := r) (by omega : d ≤ 9) hnl; omega) hM2 hA0.1 (fun hg3 => Rch.step hrt hsin hg3)) rfl rfl rfl (nb (hnr.trans hn) rfl) (.t rfl) rfl (.refl _) ⟨rfl, rfl, rfl, rfl, rfl, trivial⟩ (fun _ => rfl) (fun _ _ => trivial)).i rfl) fun ⟨⟨M3, Vis3, out3, vo3⟩, hM3, hpo3⟩ => ?_
    refine zu (za ?_)
    exact y9 ⟨(M3, Vis3, out3, vo3), hM3⟩ (by have := zDo hA0 hpo3; show WMid _ _ _ _ _ _; rw [List.take_add_one, hs]; exact this) ⟨rfl, rfl, rfl, rfl, rfl, rfl, trivial⟩
   ·
    rintro ⟨⟨M2, Vis2, out2, vo2⟩, hM2⟩ D0 hA0
    rw [show (nextXs r d n m).length = (nextL r d n m).length by simp [nextXs], List.take_length] at hA0
    dsimp only at hA0 hM2
    have hpo : WPost r N Vis d n m Vis2 out2 := zEM (by rw [succL, if_pos hnl]; exact hA0)
    refine za (zA (zO (zL ?_)))
    exact ret_M (.inl rfl) ⟨(M2, Vis2, out2, vo2), hM2, hpo⟩ (.inr rfl) (kX rfl) ⟨rfl, rfl, rfl, rfl, rfl, trivial⟩ rfl
   ·
    exact fun _ _ _ h => h.elim
  ·
   try simp only [decide_eq_true_eq, decide_eq_false_iff_not, Bool.and_eq_true, Bool.or_eq_true, Bool.and_eq_false_iff, Bool.or_eq_false_iff, Bool.not_eq_true', Bool.not_eq_false', beq_iff_eq, bne_iff_ne, ne_eq, beq_eq_false_iff_ne, bne_eq_false_iff_eq, Int.not_lt, Int.not_le] at hb1
   obtain rfl : r.entries.length = n := by simp only [List.length_map] at hb1; omega
   refine zU (zA (zC (zC (zB ?_))))
   refine sq rfl rfl hn rfl (zN rfl rfl Tryz.underlying180 rfl sz3 rfl) ?_
   refine sq rfl rfl hn rfl (zR rfl rfl Tryz.underlying3 rfl seesF0) ?_
   refine sq rfl rfl hn rfl (zR rfl rfl Tryz.underlying3 rfl seesF0) ?_
   refine sq rfl rfl hn rfl (yG rfl rfl rfl) ?_
   refine zE (zA ?_)
   refine zS rfl (fun hb2 => ?_) (fun hb2 => ?_)
   ·
    try simp only [decide_eq_true_eq, decide_eq_false_iff_not, Bool.and_eq_true, Bool.or_eq_true, Bool.and_eq_false_iff, Bool.or_eq_false_iff, Bool.not_eq_true', Bool.not_eq_false', beq_iff_eq, bne_iff_ne, ne_eq, beq_eq_false_iff_ne, bne_eq_false_iff_eq, Int.not_lt, Int.not_le] at hb2
    obtain rfl : d = N := by omega
    have hpo := post_end hV hrt hnv
    refine zC (zB ?_)
    refine sq rfl rfl hn rfl (zQ rfl rfl (id := 1003) rfl Tryz.underlying107 rfl rfl sees0) ?_
    refine sq rfl rfl hn rfl (zN rfl rfl Tryz.underlying180 rfl sz150 rfl) ?_
    refine sq rfl rfl hn rfl (zR rfl rfl Tryz.underlying150 rfl seesF0) ?_
    refine stepW (zP rfl rfl rfl (nb hn rfl) Tryz.underlying107 sz150 zr150 rfl rfl rfl (show _ = [.d (.int .u64 0)] from by kernel_rfl) (by kernel_rfl) rfl (fill_nat64 rfl) rfl rfl rfl) fun _ => ?_
    refine stepW (s_append (id := 1004) rfl rfl rfl (nb hn rfl) elt107 trivial rfl rfl rfl (by simp [chunk]; omega) (by simp [chunk]; omega) (fun b hb => trivial)) fun v48 => ?_
    refine stepW (s_storeRow rfl rfl rfl rfl rfl (rid := 1004) rfl (id := 1003) rfl sz107 (Nat.le_of_ble_eq_true rfl) rfl trivial) fun _ => ?_
    refine zE (zA (zO (zL ?_)))
    exact ret_M (.inl rfl) ⟨(M1, addV Vis d r.entries.length m, out ++ [m], v48), hM1, hpo⟩ (.inl rfl) (kX rfl) ⟨rfl, rfl, rfl, rfl, (by rw [List.map_append]; rfl), trivial⟩ rfl
   ·
    try simp only [decide_eq_true_eq, decide_eq_false_iff_not, Bool.and_eq_true, Bool.or_eq_true, Bool.and_eq_false_iff, Bool.or_eq_false_iff, Bool.not_eq_true', Bool.not_eq_false', beq_iff_eq, bne_iff_ne, ne_eq, beq_eq_false_iff_ne, bne_eq_false_iff_eq, Int.not_lt, Int.not_le] at hb2
    have hdN : d ≠ N := by omega
    refine zU (zA (zC (zB ?_)))
    refine sq rfl rfl hn rfl (zR rfl rfl Tryz.underlying147 rfl seesF0) ?_
    refine sq rfl rfl hn rfl (ze rfl rfl Tryz.underlying180 rfl sz180 rfl rfl seesF0) ?_
    refine stepW (s_call [] (fun _ => zBW r b d r.entries.length m v (by omega) hm64) rfl (zI rfl) rfl (nb hn rfl) (fun _ => trivial) rfl rfl (.refl _)) fun _ => ?_
    refine sq rfl rfl hn rfl (zG rfl rfl) ?_
    refine sq rfl rfl hn rfl (zT rfl rfl rfl) ?_
    refine sq rfl rfl hn rfl (zT rfl rfl rfl) ?_
    refine stepW (zh 8 rfl rfl rfl (nb hn rfl) zr180 rfl rfl) fun b8 => ?_
    refine stepW (zl rfl rfl rfl rfl rfl rfl (id := 8) rfl sz180 rfl (Nat.le_of_ble_eq_true rfl) rfl trivial) fun _ => ?_
    refine sq rfl rfl hn rfl (zF rfl rfl) ?_
    refine zE (zA (zB ?_))
    refine sq rfl rfl hn rfl (zQ rfl rfl (id := 1002) rfl Tryz.underlying178 rfl rfl sees0) ?_
    refine sq rfl rfl hn rfl (zY rfl rfl (id := 8) rfl Tryz.underlying180 rfl sz180 rfl rfl sees0) ?_
    refine stepW (s_callE (ih (d + 1) 0 m M1 (addV Vis d r.entries.length m) out vo (by omega) (by omega) hm (by have := kp (r := r) (n := r.entries.length) (by omega : d ≤ 9); omega) hM1 (zBO hV hrt (fun h => hdN h.1)).1 (fun hg3 => Rch.step (s := (d + 1, 0, m)) hrt (by simp [succL, hdN]) hg3)) rfl rfl rfl (nb hn rfl) (.t rfl) rfl (.refl _) ⟨rfl, rfl, rfl, rfl, rfl, trivial⟩ (fun _ => rfl) (fun _ _ => trivial)) fun ⟨⟨M3, Vis3, out3, vo3⟩, hM3, hpo3⟩ => ?_
    refine zE ?_
    exact ret_M (.inr rfl) ⟨(M3, Vis3, out3, vo3), hM3, zEM (by have := zDo (zBO hV hrt (fun h => hdN h.1)) hpo3; rw [succL, if_neg (by omega), if_neg hdN]; exact this)⟩ (.inl rfl) (kX rfl) ⟨rfl, rfl, rfl, rfl, rfl, trivial⟩ rfl
end Go.Proofs.YtaokpncjemkhcaaGreat
namespace Go.Proofs.YtaokpncjemkhcaaGreat
open Go.RowKit
set_option maxRecDepth 20000
set_option linter.all false
theorem walks_all (r : Reg) (v : Valid r) (b b2 b3 b5 N : Nat) (hN : N ≤ 9) : ∀ k, WalksOK r b b2 b3 b5 N k := by
  intro k
  induction k with
  | zero => intro d n m M Vis out vo _ _ _ h; omega
  | succ k ih => intro d n m M Vis out vo h1 h2 h3 h4 h5 h6 h7; exact walk_step r v b b2 b3 b5 N k hN ih d n m M Vis out vo h1 h2 h3 h4 h5 h6 h7
def noSpots : Spots := fun _ _ _ => False
theorem vok_none (r : Reg) (N : Nat) : VOK r N noSpots [] := ⟨fun _ _ _ h => h.elim, fun m => ⟨fun h => (by cases h), fun h => h.elim⟩, List.nodup_nil⟩
theorem walk_ok (r : Reg) (v : Valid r) (b b2 b3 b5 N : Nat) (hN : N ≤ 9) (M : D → D → Prop) (vo : Value) (hM : Good r M) :
    EffAt Tryz.prog 114 (.d (spotD 0 0 0) :: walkCa r b b2 b3 b5 N) (walkRs r b b2 b3 b5 N M noSpots [] vo) (X := WX r N noSpots 0 0 0) (fun _ => .d (.tup [])) (fun x => walkRs r b b2 b3 b5 N x.1.1 x.1.2.1 x.1.2.2.1 x.1.2.2.2) :=
  walks_all r v b b2 b3 b5 N hN _ 0 0 0 M noSpots [] vo (Nat.zero_le _) (Nat.zero_le _) (Nat.two_pow_pos _) (Nat.lt_succ_self _) hM (vok_none r N) .start
/-- What can have happened at the end of a day: all of it, each once. -/
def EvOK (r : Reg) (N : Nat) (out : List Nat) : Prop := (∀ m, m ∈ out ↔ Rch r N N r.entries.length m) ∧ out.length ≤ 64 ∧ out.Nodup
theorem ev_of {r : Reg} {N : Nat} {Vis : Spots} {out : List Nat} (v : Valid r) (hN : N ≤ 9) (h : WPost r N noSpots 0 0 0 Vis out) : EvOK r N out := by
  obtain ⟨h1, _, h3, h4⟩ := h
  have key : ∀ d n m, Rch r N d n m → Vis d n m := fun d n m hr => by
    induction hr with
    | start hg => exact h3 hg
    | step _ hs hg ih => exact h4 _ _ _ ih (fun h => h) _ hs hg
  exact ⟨fun m => (h1.2.1 m).trans ⟨h1.1 _ _ _, key _ _ _⟩, zEG v hN h1, h1.2.2⟩
theorem zCc (r : Reg) : Good r fun _ _ => False := fun _ _ h => h.elim
theorem ev_bd {r : Reg} {N : Nat} {out : List Nat} (v : Valid r) (hN : N ≤ 9) (h : EvOK r N out) : ∀ m ∈ out, m < 18446744073709551616 := fun m hm => lt64 v.e6 (((h.1 m).1 hm).bd hN).2.2
/-- What is returned where evenings are asked for. -/
def AskP (r : Reg) (is : Bool) (N : Int) (out : List Nat) (e : Int) : Prop :=
  (checkE r ≠ 0 ∧ out = [] ∧ e = checkE r) ∨ (checkE r = 0 ∧ (is && dayB N) = false ∧ out = [] ∧ e = 2) ∨ (checkE r = 0 ∧ is = true ∧ ∃ n : Nat, N = n ∧ n ≤ 9 ∧ EvOK r n out ∧ e = bif out.isEmpty then 9 else 0)
def AskX (r : Reg) (is : Bool) (N : Int) : Type := {x : List Nat × Int // AskP r is N x.1 x.2}
theorem sz178 : Sz Tryz.prog 178 1 := (by kernel_rfl : (Tryz.prog.info? 178).map (·.size) = some 1)
theorem zr107 : (Tryz.prog.info? 107).map (·.zero) = some (some (.slice none 0 0)) := by kernel_rfl
theorem zr175 : (Tryz.prog.info? 175).map (·.zero) = some (some (.map none)) := by kernel_rfl
theorem zr178 : (Tryz.prog.info? 178).map (·.zero) = some (some .nilFunc) := by kernel_rfl
theorem evenings_ok (r : Reg) (v : Valid r) (b N : Nat) (hN : N ≤ 9) (M : D → D → Prop) (hM : Good r M) : EffAt Tryz.prog 86 [.d (.ptr (workC r b)), .d (.int .i64 (N : Nat))] [(1000, mapRes KS b M)] (X := {x : (D → D → Prop) × List Nat // Good r x.1 ∧ EvOK r N x.2}) (fun x => .d (donesD x.1.2)) (fun x => [(1000, mapRes KS b x.1.1)]) := by
 refine EffAt.of_awp Tryz.func86 rfl (by kernel_rfl) rfl fun Γ hn => ?_
 refine zC (zB ?_)
 refine stepW (zr 2 rfl rfl rfl (nb hn rfl) rfl rfl) fun b2 => ?_
 refine stepW (zr 3 rfl rfl rfl (nb hn rfl) rfl rfl) fun b3 => ?_
 refine stepW (zh 1003 rfl rfl rfl (nb hn rfl) zr107 rfl rfl) fun b4 => ?_
 refine zE (zA (zC (zB ?_)))
 refine stepW (zBX (KS) 1001 rfl rfl rfl (nb hn rfl)) fun b7 => ?_
 refine stepW (zh 5 rfl rfl rfl (nb hn rfl) zr175 rfl rfl) fun b5 => ?_
 refine stepW (s_store1 rfl rfl rfl rfl rfl rfl (id := 5) rfl sz175 (Nat.le_of_ble_eq_true rfl) rfl trivial) fun _ => ?_
 refine zE (zA (zC (zB ?_)))
 refine stepW (zh 1002 rfl rfl rfl (nb hn rfl) zr178 rfl rfl) fun b6 => ?_
 refine zE (zA (zC ?_))
 refine zx (zn (t := 5) 5 rfl (nb hn rfl) rfl rfl trivial) ?_
 refine zx (zn (t := 2) 2 rfl (nb hn rfl) rfl rfl trivial) ?_
 refine zx (zn (t := 3) 3 rfl (nb hn rfl) rfl rfl trivial) ?_
 refine zx (gh_nilcell (id := 1003) (k := 0) 1004 150 1 rfl rfl) ?_
 refine zB ?_
 refine sq rfl rfl hn rfl (kQ rfl rfl rfl) ?_
 refine stepW (s_store1 rfl rfl rfl rfl rfl rfl (id := 1002) rfl sz178 (Nat.le_of_ble_eq_true rfl) rfl trivial) fun _ => ?_
 refine zE (zA (zC ?_))
 refine zx (gh_req (id := 1001) rfl (congrArg (mapRes KS b7) vis_none.symm)) ?_
 refine zB ?_
 refine sq rfl rfl hn rfl (zQ rfl rfl (id := 1002) rfl Tryz.underlying178 rfl rfl sees0) ?_
 refine sq rfl rfl hn rfl (zg rfl bt180 rfl rfl rfl rfl rfl) ?_
 refine stepW (s_callE (walk_ok r v b b7 b6 b4 N hN M (.slice none 0 0) hM) rfl rfl rfl (nb hn rfl) (.t rfl) rfl (.refl _) ⟨rfl, rfl, rfl, rfl, rfl, trivial⟩ (fun _ => rfl) (fun _ _ => trivial)) fun ⟨⟨M1, Vis1, out1, vo1⟩, hM1, hpo1⟩ => ?_
 refine zE (zA (zC (zB ?_)))
 refine sq rfl rfl hn rfl (zQ rfl rfl (id := 1003) rfl Tryz.underlying107 rfl rfl sees0) ?_
 refine stepW (s_storeRow rfl rfl rfl rfl rfl (rid := 1004) rfl (id := 1003) rfl sz107 (Nat.le_of_ble_eq_true rfl) rfl trivial) fun _ => ?_
 refine zE (zA (zO ?_))
 refine kF (gh_rowcell (id := 1003) (k := 0) (rid := 1004) rfl rfl rfl) ?_
 exact ret_E (.inl rfl) ⟨(M1, out1), hM1, ev_of v hN hpo1⟩ (yB rfl (.cell rfl (id := 1003) rfl Tryz.underlying107 rfl rfl)) ⟨rfl, trivial⟩
theorem asked_ok (r : Reg) (is : Bool) (N : Int) : EffAt Tryz.prog 54 [.d (regD r), .d (.bool is), .d (.int .i64 N)] [] (X := AskX r is N) (fun x => .d (.tup [donesD x.1.1, .int .i64 x.1.2])) (fun _ => []) := by
 refine EffAt.of_awp Tryz.func54 rfl (by kernel_rfl) rfl fun Γ hn => ?_
 refine zC (zB ?_)
 refine stepW (zr 3 rfl rfl rfl (nb hn rfl) rfl rfl) fun b3 => ?_
 refine sq rfl rfl hn rfl (zF rfl rfl) ?_
 refine sq rfl rfl hn rfl (zF rfl rfl) ?_
 refine zE (zA (zC (zC (zB ?_))))
 refine sq rfl rfl hn rfl (zY rfl rfl (id := 3) rfl Tryz.underlying44 rfl sz44 rfl rfl sees0) ?_
 refine stepW (s_call [] (fun _ => y6 _) rfl (zI rfl) rfl (nb hn rfl) (fun _ => trivial) rfl rfl (.refl _)) fun _ => ?_
 refine sq rfl rfl hn rfl (zF rfl rfl) ?_
 refine zE (zA (zC (zB ?_)))
 refine sq rfl rfl hn rfl (zG rfl rfl) ?_
 refine sq rfl rfl hn rfl (yX rfl rfl rfl) ?_
 refine zE (zA ?_)
 refine zS rfl (fun hb0 => ?_) (fun hb0 => ?_)
 ·
  simp only [bne_iff_ne, ne_eq] at hb0
  have hc0 : checkE r ≠ 0 := hb0
  refine zC (zB ?_)
  refine sq rfl rfl hn rfl (zG rfl rfl) ?_
  refine sq rfl rfl hn rfl (zF rfl rfl) ?_
  refine sq rfl rfl hn rfl (zF rfl rfl) ?_
  refine zE (zA (zO (zL ?_)))
  exact ret_E (.inl rfl) ⟨([], checkE r), .inl ⟨hc0, rfl, rfl⟩⟩ ((yj rfl (.tmp rfl) (.tmp rfl)).le (.tup (.cons (.nil 1) (.refl _)))) trivial
 ·
  have hc0 : checkE r = 0 := by simpa using hb0
  have v := zBK hc0
  refine zU (zA (zC (zC (zB ?_))))
  refine sq rfl rfl hn rfl (zG rfl rfl) ?_
  refine sq rfl rfl hn rfl (yF rfl rfl) ?_
  refine sq rfl rfl hn rfl (zG rfl rfl) ?_
  refine stepG [] (zD rfl rfl rfl) rfl (nb hn rfl) (fun hc => trivial) (fun hc => zG rfl rfl) ?_
  refine stepW (s_call [(18, _)] (fun hc => zDA _) rfl (zD rfl rfl rfl) rfl (nb hn rfl) (fun hc => ⟨⟨_, rfl, hc⟩, trivial⟩) rfl rfl (.refl _)) fun _ => ?_
  refine stepG [(19, _)] (zD rfl rfl rfl) rfl (nb hn rfl) (fun hc => ⟨⟨_, rfl, hc⟩, trivial⟩) (fun hc => yF rfl rfl) ?_
  refine sq rfl rfl hn rfl (q_or rfl rfl rfl (by simp_all)) ?_
  refine zE (zA ?_)
  refine zS rfl (fun hb1 => ?_) (fun hb1 => ?_)
  ·
   have his : (is && dayB N) = false := by cases is <;> simp at hb1 ⊢; exact hb1
   refine zC (zB ?_)
   refine sq rfl rfl hn rfl (zF rfl rfl) ?_
   refine sq rfl rfl hn rfl (zF rfl rfl) ?_
   refine zE (zA (zO (zL ?_)))
   exact ret_E (.inl rfl) ⟨([], 2), .inr (.inl ⟨hc0, his, rfl, rfl⟩)⟩ ((yj rfl (.tmp rfl) (.tmp rfl)).le (.tup (.cons (.nil 1) (.refl _)))) trivial
  ·
   have his : is = true ∧ dayB N = true := by cases is <;> simp at hb1 ⊢; exact hb1
   obtain ⟨n, rfl⟩ : ∃ n : Nat, N = n := ⟨N.toNat, by have := his.2; simp [dayB] at this; omega⟩
   have hN : n ≤ 9 := by have := his.2; simp [dayB] at this; omega
   refine zU (zA (zC (zB ?_)))
   refine sq rfl rfl hn rfl (zY rfl rfl (id := 3) rfl Tryz.underlying44 rfl sz44 rfl rfl sees0) ?_
   refine stepW (s_callE (zEP r) rfl rfl rfl (nb hn rfl) (.d rfl) rfl (.refl _) trivial (fun _ => rfl) (fun _ _ => trivial)) fun b1 => ?_
   refine sq rfl rfl hn rfl (zG rfl rfl) ?_
   refine stepW (s_callE (evenings_ok r v b1 n hN _ (zCc r)) rfl rfl rfl (nb hn rfl) (.d rfl) rfl (.refl _) ⟨rfl, trivial⟩ (fun _ => rfl) (fun _ _ => trivial)) fun ⟨⟨M1, out⟩, hM1, hev⟩ => ?_
   refine sq rfl rfl hn rfl (zF rfl rfl) ?_
   refine zE (zA (zC (zC (zB ?_))))
   refine sq rfl rfl hn rfl (zG rfl rfl) ?_
   refine sq rfl rfl hn rfl (z7 rfl rfl Tryz.underlying107) ?_
   refine sq rfl rfl hn rfl (yG rfl rfl rfl) ?_
   refine zE (zA ?_)
   refine zS rfl (fun hb2 => ?_) (fun hb2 => ?_)
   ·
    obtain rfl : out = [] := by simp at hb2; exact hb2
    refine zC (zB ?_)
    refine sq rfl rfl hn rfl (zF rfl rfl) ?_
    refine sq rfl rfl hn rfl (zF rfl rfl) ?_
    refine zE (zA (zO (zL ?_)))
    exact ret_E (.inl rfl) ⟨([], 9), .inr (.inr ⟨hc0, his.1, n, rfl, hN, hev, rfl⟩)⟩ ((yj rfl (.tmp rfl) (.tmp rfl)).le (.tup (.cons (.nil 1) (.refl _)))) trivial
   ·
    have hne : out.isEmpty = false := by cases out <;> simp at hb2 ⊢
    refine zU (zA (zC (zB ?_)))
    refine sq rfl rfl hn rfl (zG rfl rfl) ?_
    refine sq rfl rfl hn rfl (zF rfl rfl) ?_
    refine sq rfl rfl hn rfl (zF rfl rfl) ?_
    refine zE (zA (zO ?_))
    exact ret_E (.inl rfl) ⟨(out, 0), .inr (.inr ⟨hc0, his.1, n, rfl, hN, hev, by rw [hne]; rfl⟩)⟩ (yj rfl (.tmp rfl) (.tmp rfl)) trivial
end Go.Proofs.YtaokpncjemkhcaaGreat
