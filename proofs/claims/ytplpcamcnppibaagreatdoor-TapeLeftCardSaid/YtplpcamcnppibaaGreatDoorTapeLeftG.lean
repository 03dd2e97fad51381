/-
  A part of the proof that contangolaw.TapeLeft returns true: what the last text needs, and no more. No condition: no statement of the seat is proved here.
-/
import Derived.Test.YtplpcamcnppibaaGreatDoorChecked
import Derived.Test.YtplpcamcnppibaaGreatDoorTapeLeftF
namespace Go.Proofs.YtplpcamcnppibaaGreatDoor
open Go.RowKit
set_option maxRecDepth 20000
set_option linter.all false
def withinB (n lo hi : Int) : Bool := decide (lo ≤ n) && decide (n ≤ hi)
def letterB (b : UInt8) : Bool := decide (65 ≤ (b.toNat : Int)) && decide ((b.toNat : Int) ≤ 90)
def namedB (s : List UInt8) : Bool := withinB s.length 1 3 && s.all letterB
def spansB (lo hi a b : Int) : Bool := decide (a ≤ lo) && decide (lo ≤ hi) && decide (hi ≤ b)
theorem sz3 : Sz Tryz.prog 3 1 := (by kernel_rfl : (Tryz.prog.info? 3).map (·.size) = some 1)
theorem sz5 : Sz Tryz.prog 5 1 := (by kernel_rfl : (Tryz.prog.info? 5).map (·.size) = some 1)
theorem sz45 : Sz Tryz.prog 45 2 := (by kernel_rfl : (Tryz.prog.info? 45).map (·.size) = some 2)
theorem sz117 : Sz Tryz.prog 117 3 := (by kernel_rfl : (Tryz.prog.info? 117).map (·.size) = some 3)
theorem zr45 : (Tryz.prog.info? 45).map (·.zero) = some (some (.agg #[(.int .i64 0), (.int .i64 0)])) := by kernel_rfl
theorem bt45 : BT Tryz.prog 45 (.agg #[(.int .i64 0), (.int .i64 0)]) (fun i => ([(0, 1), (1, 1)] : List (Nat × Nat))[i]?) := yQ Tryz.underlying45 zr45 (by kernel_rfl)
theorem yO (n lo hi : Int) : PureAt Tryz.prog 65 [.int .i64 n, .int .i64 lo, .int .i64 hi] (.bool (withinB n lo hi)) := by
 refine PureAt.of_awp Tryz.func65 rfl (by kernel_rfl) (Nat.le_of_ble_eq_true rfl) fun Γ hn hl => ?_
 refine zC (zB ?_)
 refine sq rfl rfl hn rfl (zE rfl rfl) ?_
 refine zF (zA (zC (zB ?_)))
 refine sq rfl rfl hn rfl (zD rfl rfl) ?_
 refine sq rfl rfl hn rfl (zD rfl rfl) ?_
 refine sq rfl rfl hn rfl (yd rfl rfl rfl) ?_
 refine sq rfl rfl hn rfl (zD rfl rfl) ?_
 refine stepG [] (zG rfl rfl rfl) rfl (nb hn rfl) (fun hc => trivial) (fun hc => zD rfl rfl) ?_
 refine stepG [] (zG rfl rfl rfl) rfl (nb hn rfl) (fun hc => trivial) (fun hc => zD rfl rfl) ?_
 refine stepG [(11, _), (12, _)] (zG rfl rfl rfl) rfl (nb hn rfl) (fun hc => ⟨⟨_, rfl, hc⟩, ⟨_, rfl, hc⟩, trivial⟩) (fun hc => yd rfl rfl rfl) ?_
 refine sq rfl rfl hn rfl (zx rfl rfl rfl (by intro hB; first | (rw [hB]; rfl) | (rw [hB, hc]; rfl) | simp_all)) ?_
 refine sq rfl rfl hn rfl (zE rfl rfl) ?_
 refine zF (zA (zQ ?_))
 exact zu (.inl rfl) hl rfl (.tmp rfl)
theorem zBL (n lo hi : Int) : PureAt Tryz.prog 60 [.int .i64 n, .int .i64 lo, .int .i64 hi] (.bool (withinB n lo hi)) := by
 refine PureAt.of_awp Tryz.func60 rfl (by kernel_rfl) (Nat.le_of_ble_eq_true rfl) fun Γ hn hl => ?_
 refine zC (zB ?_)
 refine sq rfl rfl hn rfl (zE rfl rfl) ?_
 refine zF (zA (zC (zB ?_)))
 refine sq rfl rfl hn rfl (zD rfl rfl) ?_
 refine sq rfl rfl hn rfl (zD rfl rfl) ?_
 refine sq rfl rfl hn rfl (kk rfl rfl rfl) ?_
 refine sq rfl rfl hn rfl (zD rfl rfl) ?_
 refine stepG [] (zG rfl rfl rfl) rfl (nb hn rfl) (fun hc => trivial) (fun hc => zD rfl rfl) ?_
 refine stepG [] (zG rfl rfl rfl) rfl (nb hn rfl) (fun hc => trivial) (fun hc => zD rfl rfl) ?_
 refine stepG [(11, _), (12, _)] (zG rfl rfl rfl) rfl (nb hn rfl) (fun hc => ⟨⟨_, rfl, hc⟩, ⟨_, rfl, hc⟩, trivial⟩) (fun hc => yd rfl rfl rfl) ?_
 refine sq rfl rfl hn rfl (zx rfl rfl rfl (by intro hB; first | (rw [hB]; rfl) | (rw [hB, hc]; rfl) | simp_all)) ?_
 refine sq rfl rfl hn rfl (zE rfl rfl) ?_
 refine zF (zA (zQ ?_))
 exact zu (.inl rfl) hl rfl (.tmp rfl)
theorem letter_ok (b : UInt8) : PureAt Tryz.prog 125 [.int .u8 (b.toNat : Int)] (.bool (letterB b)) := by
 refine PureAt.of_awp Tryz.func125 rfl (by kernel_rfl) (Nat.le_of_ble_eq_true rfl) fun Γ hn hl => ?_
 refine zC (zB ?_)
 refine sq rfl rfl hn rfl (zE rfl rfl) ?_
 refine zF (zA (zC (zB ?_)))
 refine sq rfl rfl hn rfl (zD rfl rfl) ?_
 refine sq rfl rfl hn rfl (yd rfl rfl rfl) ?_
 refine sq rfl rfl hn rfl (zD rfl rfl) ?_
 refine stepG [] (zG rfl rfl rfl) rfl (nb hn rfl) (fun hc => trivial) (fun hc => zD rfl rfl) ?_
 refine stepG [(6, _)] (zG rfl rfl rfl) rfl (nb hn rfl) (fun hc => ⟨⟨_, rfl, hc⟩, trivial⟩) (fun hc => yd rfl rfl rfl) ?_
 refine sq rfl rfl hn rfl (zx rfl rfl rfl (by intro hB; first | (rw [hB]; rfl) | (rw [hB, hc]; rfl) | simp_all)) ?_
 refine sq rfl rfl hn rfl (zE rfl rfl) ?_
 refine zF (zA (zQ ?_))
 exact zu (.inl rfl) hl rfl (.tmp rfl)
theorem IndexFunc_byte (l : List UInt8) (p : UInt8 → Bool) (g : FuncId) (fi ca : List D) (hp : ∀ x ∈ l, PureAt Tryz.prog g (fi ++ [.int .u8 (x.toNat : Int)] ++ ca) (.bool (p x))) : PureAt Tryz.prog 151 [bytesD l, .fn (.func g) fi ca] (.int .i64 (idxOf p l)) := by
 refine PureAt.of_awp' Tryz.func151 rfl (by kernel_rfl) rfl fun hlen Γ hn hl => ?_
 have hl5 := hlen.1; simp only [List.length_map] at hl5
 refine zC (zB ?_)
 refine sq rfl rfl hn rfl (zE rfl rfl) ?_
 refine zF (zA (zC (zC (zB ?_))))
 refine sq rfl rfl hn rfl (zD rfl rfl) ?_
 refine sq rfl rfl hn rfl (yI rfl rfl Tryz.underlying167) ?_
 refine sq rfl rfl hn rfl (zD rfl rfl) ?_
 refine zF (zA (zU ?_))
 refine awp_loop_on (ι := { i : Nat // i ≤ l.length ∧ (l.take i).all (fun x => !p x) = true }) (fun i => (8, true, .d (.int .i64 (i.1 : Int))) :: anys [9, 10, 5, 11, 12, 13, 14, 15, 16, 18]) (fun i => []) (fun i => l.length - i.1) ⟨0, by simp⟩ ⟨.inl rfl, zK _⟩ trivial ?_
 rintro ⟨i, hi, hall⟩
 dsimp only
 refine zC (zB ?_)
 refine sq rfl rfl hn rfl (yF rfl rfl rfl) ?_
 refine zF (zA (zC ?_))
 refine zN rfl (fun hb0 => ?_) (fun hb0 => ?_)
 ·
  try simp only [decide_eq_true_eq, decide_eq_false_iff_not, Bool.and_eq_true, Bool.or_eq_true, Bool.and_eq_false_iff, Bool.or_eq_false_iff, Bool.not_eq_true', Bool.not_eq_false', beq_iff_eq, bne_iff_ne, ne_eq, beq_eq_false_iff_ne, bne_eq_false_iff_eq, Int.not_lt, Int.not_le] at hb0
  have hlt : i < l.length := by simpa using hb0
  obtain ⟨x, hx⟩ := zn hlt
  refine zP (zA (zC (zU (zC (zB ?_)))))
  refine sq rfl rfl hn rfl (zD rfl rfl) ?_
  refine sq rfl rfl hn rfl (zE rfl rfl) ?_
  refine zF (zA (zC (zB ?_)))
  refine sq rfl rfl hn rfl (zD rfl rfl) ?_
  refine sq rfl rfl hn rfl (zD rfl rfl) ?_
  refine sq rfl rfl hn rfl (zD rfl rfl) ?_
  refine sq rfl rfl hn rfl (q_index rfl rfl rfl Tryz.underlying167 sz5 rfl (mget hx)) ?_
  refine sq rfl rfl hn rfl (zz rfl rfl Tryz.underlying5 rfl seesF0) ?_
  refine stepW (s_call [] (fun _ => hp x (List.mem_of_getElem? hx)) rfl (zI rfl) rfl (nb hn rfl) (fun _ => trivial) rfl rfl (.refl _)) fun _ => ?_
  refine zF (zA ?_)
  refine zN rfl (fun hb1 => ?_) (fun hb1 => ?_)
  ·
   try simp only [decide_eq_true_eq, decide_eq_false_iff_not, Bool.and_eq_true, Bool.or_eq_true, Bool.and_eq_false_iff, Bool.or_eq_false_iff, Bool.not_eq_true', Bool.not_eq_false', beq_iff_eq, bne_iff_ne, ne_eq, beq_eq_false_iff_ne, bne_eq_false_iff_eq, Int.not_lt, Int.not_le] at hb1
   refine zC (zB ?_)
   refine sq rfl rfl hn rfl (zD rfl rfl) ?_
   refine sq rfl rfl hn rfl (zE rfl rfl) ?_
   refine zF (zA (zQ (zX (zL (zL (zX (zL ?_)))))))
   refine z6 (zu (.inl rfl) hl rfl (.tmp rfl)) ?_
   rw [k9 hx hall (by simpa using hb1)]
  ·
   try simp only [decide_eq_true_eq, decide_eq_false_iff_not, Bool.and_eq_true, Bool.or_eq_true, Bool.and_eq_false_iff, Bool.or_eq_false_iff, Bool.not_eq_true', Bool.not_eq_false', beq_iff_eq, bne_iff_ne, ne_eq, beq_eq_false_iff_ne, bne_eq_false_iff_eq, Int.not_lt, Int.not_le] at hb1
   refine zP (zS (zA (zB ?_)))
   refine sq rfl rfl hn rfl (zp rfl rfl rfl (r := ((i + 1 : Nat) : Int)) (i64w (by omega) (by omega))) ?_
   refine sq rfl rfl hn rfl (zD rfl rfl) ?_
   refine zF ?_
   exact zR ⟨i + 1, by omega, y9 hx hall (by simp [hb1])⟩ ⟨.inl rfl, zK _⟩ trivial (by simp only; omega) (by repeat (first | exact kr _ | refine kc rfl ?_)) (by repeat (first | exact kr _ | refine kc rfl ?_))
 ·
  try simp only [decide_eq_true_eq, decide_eq_false_iff_not, Bool.and_eq_true, Bool.or_eq_true, Bool.and_eq_false_iff, Bool.or_eq_false_iff, Bool.not_eq_true', Bool.not_eq_false', beq_iff_eq, bne_iff_ne, ne_eq, beq_eq_false_iff_ne, bne_eq_false_iff_eq, Int.not_lt, Int.not_le] at hb0
  refine zk (zM (zM (zV (zA (zC (zB ?_))))))
  refine sq rfl rfl hn rfl (zE rfl rfl) ?_
  refine zF (zA (zQ ?_))
  refine z6 (zu (.inl rfl) hl rfl (.tmp rfl)) ?_
  have hi2 : i = l.length := by simp only [List.length_map] at hb0; omega
  subst hi2; rw [List.take_length] at hall; rw [zAF hall]
theorem ContainsFunc_byte (l : List UInt8) (p : UInt8 → Bool) (g : FuncId) (fi ca : List D) (hp : ∀ x ∈ l, PureAt Tryz.prog g (fi ++ [.int .u8 (x.toNat : Int)] ++ ca) (.bool (p x))) : PureAt Tryz.prog 136 [bytesD l, .fn (.func g) fi ca] (.bool (l.any p)) := by
 refine PureAt.of_awp Tryz.func136 rfl (by kernel_rfl) (Nat.le_of_ble_eq_true rfl) fun Γ hn hl => ?_
 refine zC (zB ?_)
 refine sq rfl rfl hn rfl (zE rfl rfl) ?_
 refine zF (zA (zC (zB ?_)))
 refine sq rfl rfl hn rfl (zD rfl rfl) ?_
 refine sq rfl rfl hn rfl (zD rfl rfl) ?_
 refine stepW (s_call [] (fun _ => IndexFunc_byte l p g fi ca hp) rfl (zI rfl) rfl (nb hn rfl) (fun _ => trivial) rfl rfl (.refl _)) fun _ => ?_
 refine sq rfl rfl hn rfl (kk rfl rfl rfl) ?_
 refine sq rfl rfl hn rfl (zE rfl rfl) ?_
 refine zF (zA (zQ ?_))
 refine z6 (zu (.inl rfl) hl rfl (.tmp rfl)) ?_
 rw [zAJ]
theorem all1_byte (x : UInt8) (b : Bool) (g : FuncId) (fi ca : List D) (hp : PureAt Tryz.prog g (fi ++ [.int .u8 (x.toNat : Int)] ++ ca) (.bool b)) : PureAt Tryz.prog 137 [.int .u8 (x.toNat : Int), .ptr [.fn (.func g) fi ca]] (.bool (!b)) := by
 refine PureAt.of_awp Tryz.func137 rfl (by kernel_rfl) (Nat.le_of_ble_eq_true rfl) fun Γ hn hl => ?_
 refine zC (zB ?_)
 refine sq rfl rfl hn rfl (zE rfl rfl) ?_
 refine zF (zA (zC (zB ?_)))
 refine sq rfl rfl hn rfl (zz rfl rfl Tryz.underlying205 rfl seesF0) ?_
 refine sq rfl rfl hn rfl (zD rfl rfl) ?_
 refine stepW (s_call [] (fun _ => hp) rfl (zI rfl) rfl (nb hn rfl) (fun _ => trivial) rfl rfl (.refl _)) fun _ => ?_
 refine sq rfl rfl hn rfl (yN rfl rfl) ?_
 refine sq rfl rfl hn rfl (zE rfl rfl) ?_
 refine zF (zA (zQ ?_))
 exact zu (.inl rfl) hl rfl (.tmp rfl)
theorem all_byte (l : List UInt8) (p : UInt8 → Bool) (g : FuncId) (fi ca : List D) (hp : ∀ x ∈ l, PureAt Tryz.prog g (fi ++ [.int .u8 (x.toNat : Int)] ++ ca) (.bool (p x))) : PureAt Tryz.prog 124 [bytesD l, .fn (.func g) fi ca] (.bool (l.all p)) := by
 refine PureAt.of_awp Tryz.func124 rfl (by kernel_rfl) (Nat.le_of_ble_eq_true rfl) fun Γ hn hl => ?_
 refine zC (zB ?_)
 refine stepW (yE 3 rfl rfl rfl (nb hn rfl) rfl rfl) fun b3 => ?_
 refine sq rfl rfl hn rfl (zE rfl rfl) ?_
 refine zF (zA (zC (zB ?_)))
 refine sq rfl rfl hn rfl (zD rfl rfl) ?_
 refine zAC (zBM (t := 3) 3 rfl (nb hn rfl) rfl rfl trivial) ?_
 refine sq rfl rfl hn rfl (kA rfl rfl rfl) ?_
 refine stepW (s_call [] (fun _ => ContainsFunc_byte l (fun x => !p x) _ [] [.ptr [.fn (.func g) fi ca]] (fun x hx => all1_byte x _ g fi ca (hp x hx))) rfl (zI rfl) rfl (nb hn rfl) (fun _ => trivial) rfl rfl (.refl _)) fun _ => ?_
 refine sq rfl rfl hn rfl (yN rfl rfl) ?_
 refine sq rfl rfl hn rfl (zE rfl rfl) ?_
 refine zF (zA (zQ ?_))
 refine z6 (zu (.inl rfl) hl rfl (.tmp rfl)) ?_
 rw [List.all_eq_not_any_not]
theorem zAs (l : List Stk) (p : Stk → Bool) (g : FuncId) (fi ca : List D) (hp : ∀ x ∈ l, PureAt Tryz.prog g (fi ++ [.agg (stkE x)] ++ ca) (.bool (p x))) : PureAt Tryz.prog 121 [stksD l, .fn (.func g) fi ca] (.int .i64 (idxOf p l)) := by
 refine PureAt.of_awp' Tryz.func121 rfl (by kernel_rfl) rfl fun hlen Γ hn hl => ?_
 have hl5 := hlen.1; simp only [List.length_map] at hl5
 refine zC (zB ?_)
 refine sq rfl rfl hn rfl (zE rfl rfl) ?_
 refine zF (zA (zC (zC (zB ?_))))
 refine sq rfl rfl hn rfl (zD rfl rfl) ?_
 refine sq rfl rfl hn rfl (yI rfl rfl Tryz.underlying31) ?_
 refine sq rfl rfl hn rfl (zD rfl rfl) ?_
 refine zF (zA (zU ?_))
 refine awp_loop_on (ι := { i : Nat // i ≤ l.length ∧ (l.take i).all (fun x => !p x) = true }) (fun i => (8, true, .d (.int .i64 (i.1 : Int))) :: anys [9, 10, 5, 11, 12, 13, 14, 15, 16, 18]) (fun i => []) (fun i => l.length - i.1) ⟨0, by simp⟩ ⟨.inl rfl, zK _⟩ trivial ?_
 rintro ⟨i, hi, hall⟩
 dsimp only
 refine zC (zB ?_)
 refine sq rfl rfl hn rfl (yF rfl rfl rfl) ?_
 refine zF (zA (zC ?_))
 refine zN rfl (fun hb0 => ?_) (fun hb0 => ?_)
 ·
  try simp only [decide_eq_true_eq, decide_eq_false_iff_not, Bool.and_eq_true, Bool.or_eq_true, Bool.and_eq_false_iff, Bool.or_eq_false_iff, Bool.not_eq_true', Bool.not_eq_false', beq_iff_eq, bne_iff_ne, ne_eq, beq_eq_false_iff_ne, bne_eq_false_iff_eq, Int.not_lt, Int.not_le] at hb0
  have hlt : i < l.length := by simpa using hb0
  obtain ⟨x, hx⟩ := zn hlt
  refine zP (zA (zC (zU (zC (zB ?_)))))
  refine sq rfl rfl hn rfl (zD rfl rfl) ?_
  refine sq rfl rfl hn rfl (zE rfl rfl) ?_
  refine zF (zA (zC (zB ?_)))
  refine sq rfl rfl hn rfl (zD rfl rfl) ?_
  refine sq rfl rfl hn rfl (zD rfl rfl) ?_
  refine sq rfl rfl hn rfl (zD rfl rfl) ?_
  refine sq rfl rfl hn rfl (q_index rfl rfl rfl Tryz.underlying31 sz117 rfl (mget hx)) ?_
  refine sq rfl rfl hn rfl (yM rfl rfl Tryz.underlying117 rfl sz117 rfl rfl seesF0) ?_
  refine stepW (s_call [] (fun _ => hp x (List.mem_of_getElem? hx)) rfl (zI rfl) rfl (nb hn rfl) (fun _ => trivial) rfl rfl (.refl _)) fun _ => ?_
  refine zF (zA ?_)
  refine zN rfl (fun hb1 => ?_) (fun hb1 => ?_)
  ·
   try simp only [decide_eq_true_eq, decide_eq_false_iff_not, Bool.and_eq_true, Bool.or_eq_true, Bool.and_eq_false_iff, Bool.or_eq_false_iff, Bool.not_eq_true', Bool.not_eq_false', beq_iff_eq, bne_iff_ne, ne_eq, beq_eq_false_iff_ne, bne_eq_false_iff_eq, Int.not_lt, Int.not_le] at hb1
   refine zC (zB ?_)
   refine sq rfl rfl hn rfl (zD rfl rfl) ?_
   refine sq rfl rfl hn rfl (zE rfl rfl) ?_
   refine zF (zA (zQ (zX (zL (zL (zX (zL ?_)))))))
   refine z6 (zu (.inl rfl) hl rfl (.tmp rfl)) ?_
   rw [k9 hx hall (by simpa using hb1)]
  ·
   try simp only [decide_eq_true_eq, decide_eq_false_iff_not, Bool.and_eq_true, Bool.or_eq_true, Bool.and_eq_false_iff, Bool.or_eq_false_iff, Bool.not_eq_true', Bool.not_eq_false', beq_iff_eq, bne_iff_ne, ne_eq, beq_eq_false_iff_ne, bne_eq_false_iff_eq, Int.not_lt, Int.not_le] at hb1
   refine zP (zS (zA (zB ?_)))
   refine sq rfl rfl hn rfl (zp rfl rfl rfl (r := ((i + 1 : Nat) : Int)) (i64w (by omega) (by omega))) ?_
   refine sq rfl rfl hn rfl (zD rfl rfl) ?_
   refine zF ?_
   exact zR ⟨i + 1, by omega, y9 hx hall (by simp [hb1])⟩ ⟨.inl rfl, zK _⟩ trivial (by simp only; omega) (by repeat (first | exact kr _ | refine kc rfl ?_)) (by repeat (first | exact kr _ | refine kc rfl ?_))
 ·
  try simp only [decide_eq_true_eq, decide_eq_false_iff_not, Bool.and_eq_true, Bool.or_eq_true, Bool.and_eq_false_iff, Bool.or_eq_false_iff, Bool.not_eq_true', Bool.not_eq_false', beq_iff_eq, bne_iff_ne, ne_eq, beq_eq_false_iff_ne, bne_eq_false_iff_eq, Int.not_lt, Int.not_le] at hb0
  refine zk (zM (zM (zV (zA (zC (zB ?_))))))
  refine sq rfl rfl hn rfl (zE rfl rfl) ?_
  refine zF (zA (zQ ?_))
  refine z6 (zu (.inl rfl) hl rfl (.tmp rfl)) ?_
  have hi2 : i = l.length := by simp only [List.length_map] at hb0; omega
  subst hi2; rw [List.take_length] at hall; rw [zAF hall]
theorem ContainsFunc_stk (l : List Stk) (p : Stk → Bool) (g : FuncId) (fi ca : List D) (hp : ∀ x ∈ l, PureAt Tryz.prog g (fi ++ [.agg (stkE x)] ++ ca) (.bool (p x))) : PureAt Tryz.prog 98 [stksD l, .fn (.func g) fi ca] (.bool (l.any p)) := by
 refine PureAt.of_awp Tryz.func98 rfl (by kernel_rfl) (Nat.le_of_ble_eq_true rfl) fun Γ hn hl => ?_
 refine zC (zB ?_)
 refine sq rfl rfl hn rfl (zE rfl rfl) ?_
 refine zF (zA (zC (zB ?_)))
 refine sq rfl rfl hn rfl (zD rfl rfl) ?_
 refine sq rfl rfl hn rfl (zD rfl rfl) ?_
 refine stepW (s_call [] (fun _ => zAs l p g fi ca hp) rfl (zI rfl) rfl (nb hn rfl) (fun _ => trivial) rfl rfl (.refl _)) fun _ => ?_
 refine sq rfl rfl hn rfl (kk rfl rfl rfl) ?_
 refine sq rfl rfl hn rfl (zE rfl rfl) ?_
 refine zF (zA (zQ ?_))
 refine z6 (zu (.inl rfl) hl rfl (.tmp rfl)) ?_
 rw [zAJ]
theorem all1_stk (x : Stk) (b : Bool) (g : FuncId) (fi ca : List D) (hp : PureAt Tryz.prog g (fi ++ [.agg (stkE x)] ++ ca) (.bool b)) : PureAt Tryz.prog 99 [.agg (stkE x), .ptr [.fn (.func g) fi ca]] (.bool (!b)) := by
 refine PureAt.of_awp Tryz.func99 rfl (by kernel_rfl) (Nat.le_of_ble_eq_true rfl) fun Γ hn hl => ?_
 refine zC (zB ?_)
 refine stepW (yE 2 rfl rfl rfl (nb hn rfl) rfl rfl) fun b2 => ?_
 refine sq rfl rfl hn rfl (zE rfl rfl) ?_
 refine zF (zA (zC (zB ?_)))
 refine sq rfl rfl hn rfl (zz rfl rfl Tryz.underlying134 rfl seesF0) ?_
 refine sq rfl rfl hn rfl (zf rfl rfl (id := 2) rfl Tryz.underlying117 rfl sz117 rfl rfl sees0) ?_
 refine stepW (s_call [] (fun _ => hp) rfl (zI rfl) rfl (nb hn rfl) (fun _ => trivial) rfl rfl (.refl _)) fun _ => ?_
 refine sq rfl rfl hn rfl (yN rfl rfl) ?_
 refine sq rfl rfl hn rfl (zE rfl rfl) ?_
 refine zF (zA (zQ ?_))
 exact zu (.inl rfl) hl rfl (.tmp rfl)
theorem all_stk (l : List Stk) (p : Stk → Bool) (g : FuncId) (fi ca : List D) (hp : ∀ x ∈ l, PureAt Tryz.prog g (fi ++ [.agg (stkE x)] ++ ca) (.bool (p x))) : PureAt Tryz.prog 66 [stksD l, .fn (.func g) fi ca] (.bool (l.all p)) := by
 refine PureAt.of_awp Tryz.func66 rfl (by kernel_rfl) (Nat.le_of_ble_eq_true rfl) fun Γ hn hl => ?_
 refine zC (zB ?_)
 refine stepW (yE 3 rfl rfl rfl (nb hn rfl) rfl rfl) fun b3 => ?_
 refine sq rfl rfl hn rfl (zE rfl rfl) ?_
 refine zF (zA (zC (zB ?_)))
 refine sq rfl rfl hn rfl (zD rfl rfl) ?_
 refine zAC (zBM (t := 3) 3 rfl (nb hn rfl) rfl rfl trivial) ?_
 refine sq rfl rfl hn rfl (kA rfl rfl rfl) ?_
 refine stepW (s_call [] (fun _ => ContainsFunc_stk l (fun x => !p x) _ [] [.ptr [.fn (.func g) fi ca]] (fun x hx => all1_stk x _ g fi ca (hp x hx))) rfl (zI rfl) rfl (nb hn rfl) (fun _ => trivial) rfl rfl (.refl _)) fun _ => ?_
 refine sq rfl rfl hn rfl (yN rfl rfl) ?_
 refine sq rfl rfl hn rfl (zE rfl rfl) ?_
 refine zF (zA (zQ ?_))
 refine z6 (zu (.inl rfl) hl rfl (.tmp rfl)) ?_
 rw [List.all_eq_not_any_not]
theorem IndexFunc_rng (l : List (Int × Int)) (p : (Int × Int) → Bool) (g : FuncId) (fi ca : List D) (hp : ∀ x ∈ l, PureAt Tryz.prog g (fi ++ [rngD x] ++ ca) (.bool (p x))) : PureAt Tryz.prog 138 [rngsD l, .fn (.func g) fi ca] (.int .i64 (idxOf p l)) := by
 refine PureAt.of_awp' Tryz.func138 rfl (by kernel_rfl) rfl fun hlen Γ hn hl => ?_
 have hl5 := hlen.1; simp only [List.length_map] at hl5
 refine zC (zB ?_)
 refine sq rfl rfl hn rfl (zE rfl rfl) ?_
 refine zF (zA (zC (zC (zB ?_))))
 refine sq rfl rfl hn rfl (zD rfl rfl) ?_
 refine sq rfl rfl hn rfl (yI rfl rfl Tryz.underlying48) ?_
 refine sq rfl rfl hn rfl (zD rfl rfl) ?_
 refine zF (zA (zU ?_))
 refine awp_loop_on (ι := { i : Nat // i ≤ l.length ∧ (l.take i).all (fun x => !p x) = true }) (fun i => (8, true, .d (.int .i64 (i.1 : Int))) :: anys [9, 10, 5, 11, 12, 13, 14, 15, 16, 18]) (fun i => []) (fun i => l.length - i.1) ⟨0, by simp⟩ ⟨.inl rfl, zK _⟩ trivial ?_
 rintro ⟨i, hi, hall⟩
 dsimp only
 refine zC (zB ?_)
 refine sq rfl rfl hn rfl (yF rfl rfl rfl) ?_
 refine zF (zA (zC ?_))
 refine zN rfl (fun hb0 => ?_) (fun hb0 => ?_)
 ·
  try simp only [decide_eq_true_eq, decide_eq_false_iff_not, Bool.and_eq_true, Bool.or_eq_true, Bool.and_eq_false_iff, Bool.or_eq_false_iff, Bool.not_eq_true', Bool.not_eq_false', beq_iff_eq, bne_iff_ne, ne_eq, beq_eq_false_iff_ne, bne_eq_false_iff_eq, Int.not_lt, Int.not_le] at hb0
  have hlt : i < l.length := by simpa using hb0
  obtain ⟨x, hx⟩ := zn hlt
  refine zP (zA (zC (zU (zC (zB ?_)))))
  refine sq rfl rfl hn rfl (zD rfl rfl) ?_
  refine sq rfl rfl hn rfl (zE rfl rfl) ?_
  refine zF (zA (zC (zB ?_)))
  refine sq rfl rfl hn rfl (zD rfl rfl) ?_
  refine sq rfl rfl hn rfl (zD rfl rfl) ?_
  refine sq rfl rfl hn rfl (zD rfl rfl) ?_
  refine sq rfl rfl hn rfl (q_index rfl rfl rfl Tryz.underlying48 sz45 rfl (mget hx)) ?_
  refine sq rfl rfl hn rfl (yM rfl rfl Tryz.underlying45 rfl sz45 rfl rfl seesF0) ?_
  refine stepW (s_call [] (fun _ => hp x (List.mem_of_getElem? hx)) rfl (zI rfl) rfl (nb hn rfl) (fun _ => trivial) rfl rfl (.refl _)) fun _ => ?_
  refine zF (zA ?_)
  refine zN rfl (fun hb1 => ?_) (fun hb1 => ?_)
  ·
   try simp only [decide_eq_true_eq, decide_eq_false_iff_not, Bool.and_eq_true, Bool.or_eq_true, Bool.and_eq_false_iff, Bool.or_eq_false_iff, Bool.not_eq_true', Bool.not_eq_false', beq_iff_eq, bne_iff_ne, ne_eq, beq_eq_false_iff_ne, bne_eq_false_iff_eq, Int.not_lt, Int.not_le] at hb1
   refine zC (zB ?_)
   refine sq rfl rfl hn rfl (zD rfl rfl) ?_
   refine sq rfl rfl hn rfl (zE rfl rfl) ?_
   refine zF (zA (zQ (zX (zL (zL (zX (zL ?_)))))))
   refine z6 (zu (.inl rfl) hl rfl (.tmp rfl)) ?_
   rw [k9 hx hall (by simpa using hb1)]
  ·
   try simp only [decide_eq_true_eq, decide_eq_false_iff_not, Bool.and_eq_true, Bool.or_eq_true, Bool.and_eq_false_iff, Bool.or_eq_false_iff, Bool.not_eq_true', Bool.not_eq_false', beq_iff_eq, bne_iff_ne, ne_eq, beq_eq_false_iff_ne, bne_eq_false_iff_eq, Int.not_lt, Int.not_le] at hb1
   refine zP (zS (zA (zB ?_)))
   refine sq rfl rfl hn rfl (zp rfl rfl rfl (r := ((i + 1 : Nat) : Int)) (i64w (by omega) (by omega))) ?_
   refine sq rfl rfl hn rfl (zD rfl rfl) ?_
   refine zF ?_
   exact zR ⟨i + 1, by omega, y9 hx hall (by simp [hb1])⟩ ⟨.inl rfl, zK _⟩ trivial (by simp only; omega) (by repeat (first | exact kr _ | refine kc rfl ?_)) (by repeat (first | exact kr _ | refine kc rfl ?_))
 ·
  try simp only [decide_eq_true_eq, decide_eq_false_iff_not, Bool.and_eq_true, Bool.or_eq_true, Bool.and_eq_false_iff, Bool.or_eq_false_iff, Bool.not_eq_true', Bool.not_eq_false', beq_iff_eq, bne_iff_ne, ne_eq, beq_eq_false_iff_ne, bne_eq_false_iff_eq, Int.not_lt, Int.not_le] at hb0
  refine zk (zM (zM (zV (zA (zC (zB ?_))))))
  refine sq rfl rfl hn rfl (zE rfl rfl) ?_
  refine zF (zA (zQ ?_))
  refine z6 (zu (.inl rfl) hl rfl (.tmp rfl)) ?_
  have hi2 : i = l.length := by simp only [List.length_map] at hb0; omega
  subst hi2; rw [List.take_length] at hall; rw [zAF hall]
theorem ContainsFunc_rng (l : List (Int × Int)) (p : (Int × Int) → Bool) (g : FuncId) (fi ca : List D) (hp : ∀ x ∈ l, PureAt Tryz.prog g (fi ++ [rngD x] ++ ca) (.bool (p x))) : PureAt Tryz.prog 127 [rngsD l, .fn (.func g) fi ca] (.bool (l.any p)) := by
 refine PureAt.of_awp Tryz.func127 rfl (by kernel_rfl) (Nat.le_of_ble_eq_true rfl) fun Γ hn hl => ?_
 refine zC (zB ?_)
 refine sq rfl rfl hn rfl (zE rfl rfl) ?_
 refine zF (zA (zC (zB ?_)))
 refine sq rfl rfl hn rfl (zD rfl rfl) ?_
 refine sq rfl rfl hn rfl (zD rfl rfl) ?_
 refine stepW (s_call [] (fun _ => IndexFunc_rng l p g fi ca hp) rfl (zI rfl) rfl (nb hn rfl) (fun _ => trivial) rfl rfl (.refl _)) fun _ => ?_
 refine sq rfl rfl hn rfl (kk rfl rfl rfl) ?_
 refine sq rfl rfl hn rfl (zE rfl rfl) ?_
 refine zF (zA (zQ ?_))
 refine z6 (zu (.inl rfl) hl rfl (.tmp rfl)) ?_
 rw [zAJ]
theorem all1_rng (x : (Int × Int)) (b : Bool) (g : FuncId) (fi ca : List D) (hp : PureAt Tryz.prog g (fi ++ [rngD x] ++ ca) (.bool b)) : PureAt Tryz.prog 128 [rngD x, .ptr [.fn (.func g) fi ca]] (.bool (!b)) := by
 refine PureAt.of_awp Tryz.func128 rfl (by kernel_rfl) (Nat.le_of_ble_eq_true rfl) fun Γ hn hl => ?_
 refine zC (zB ?_)
 refine stepW (yE 2 rfl rfl rfl (nb hn rfl) rfl rfl) fun b2 => ?_
 refine sq rfl rfl hn rfl (zE rfl rfl) ?_
 refine zF (zA (zC (zB ?_)))
 refine sq rfl rfl hn rfl (zz rfl rfl Tryz.underlying180 rfl seesF0) ?_
 refine sq rfl rfl hn rfl (zf rfl rfl (id := 2) rfl Tryz.underlying45 rfl sz45 rfl rfl sees0) ?_
 refine stepW (s_call [] (fun _ => hp) rfl (zI rfl) rfl (nb hn rfl) (fun _ => trivial) rfl rfl (.refl _)) fun _ => ?_
 refine sq rfl rfl hn rfl (yN rfl rfl) ?_
 refine sq rfl rfl hn rfl (zE rfl rfl) ?_
 refine zF (zA (zQ ?_))
 exact zu (.inl rfl) hl rfl (.tmp rfl)
theorem all_rng (l : List (Int × Int)) (p : (Int × Int) → Bool) (g : FuncId) (fi ca : List D) (hp : ∀ x ∈ l, PureAt Tryz.prog g (fi ++ [rngD x] ++ ca) (.bool (p x))) : PureAt Tryz.prog 102 [rngsD l, .fn (.func g) fi ca] (.bool (l.all p)) := by
 refine PureAt.of_awp Tryz.func102 rfl (by kernel_rfl) (Nat.le_of_ble_eq_true rfl) fun Γ hn hl => ?_
 refine zC (zB ?_)
 refine stepW (yE 3 rfl rfl rfl (nb hn rfl) rfl rfl) fun b3 => ?_
 refine sq rfl rfl hn rfl (zE rfl rfl) ?_
 refine zF (zA (zC (zB ?_)))
 refine sq rfl rfl hn rfl (zD rfl rfl) ?_
 refine zAC (zBM (t := 3) 3 rfl (nb hn rfl) rfl rfl trivial) ?_
 refine sq rfl rfl hn rfl (kA rfl rfl rfl) ?_
 refine stepW (s_call [] (fun _ => ContainsFunc_rng l (fun x => !p x) _ [] [.ptr [.fn (.func g) fi ca]] (fun x hx => all1_rng x _ g fi ca (hp x hx))) rfl (zI rfl) rfl (nb hn rfl) (fun _ => trivial) rfl rfl (.refl _)) fun _ => ?_
 refine sq rfl rfl hn rfl (yN rfl rfl) ?_
 refine sq rfl rfl hn rfl (zE rfl rfl) ?_
 refine zF (zA (zQ ?_))
 refine z6 (zu (.inl rfl) hl rfl (.tmp rfl)) ?_
 rw [List.all_eq_not_any_not]
theorem zEX (s : List UInt8) (h5 : s.length ≤ 140737488355328) : PureAt Tryz.prog 96 [strD s] (.bool (namedB s)) := by
 refine PureAt.of_awp Tryz.func96 rfl (by kernel_rfl) (Nat.le_of_ble_eq_true rfl) fun Γ hn hl => ?_
 refine zC (zB ?_)
 refine sq rfl rfl hn rfl (zE rfl rfl) ?_
 refine zF (zA (zC (zB ?_)))
 refine sq rfl rfl hn rfl (zD rfl rfl) ?_
 refine sq rfl rfl hn rfl (yY rfl rfl Tryz.underlying9) ?_
 refine stepW (s_call [] (fun _ => yO _ _ _) rfl (zI rfl) rfl (nb hn rfl) (fun _ => trivial) rfl rfl (.refl _)) fun _ => ?_
 refine sq rfl rfl hn rfl (zD rfl rfl) ?_
 refine stepG [] (zG rfl rfl rfl) rfl (nb hn rfl) (fun hc => trivial) (fun hc => zD rfl rfl) ?_
 refine stepW (zD9 [(7, _)] (zG rfl rfl rfl) rfl (nb hn rfl) (fun hc => ⟨⟨_, rfl, hc⟩, trivial⟩) (fun hc => s_bytesOf rfl rfl rfl (nb hn rfl) rfl Tryz.underlying9 Tryz.underlying167 Tryz.underlying5 (by simp only [maxLen]; omega))) fun _ => ?_
 refine stepW (s_call [(8, _)] (fun hc => all_byte s letterB 125 [] [] (fun x _ => letter_ok x)) rfl (zG rfl rfl rfl) rfl (nb hn rfl) (fun hc => ⟨⟨_, rfl, hc⟩, trivial⟩) rfl rfl (.refl _)) fun _ => ?_
 refine sq rfl rfl hn rfl (zx rfl rfl rfl (by intro hB; first | (rw [hB]; rfl) | (rw [hB, hc]; rfl) | simp_all)) ?_
 refine sq rfl rfl hn rfl (zE rfl rfl) ?_
 refine zF (zA (zQ ?_))
 exact zu (.inl rfl) hl rfl (.tmp rfl)
theorem zCl (r : Int × Int) (a b : Int) : PureAt Tryz.prog 97 [rngD r, .int .i64 a, .int .i64 b] (.bool (spansB r.1 r.2 a b)) := by
 refine PureAt.of_awp Tryz.func97 rfl (by kernel_rfl) (Nat.le_of_ble_eq_true rfl) fun Γ hn hl => ?_
 refine zC (zB ?_)
 refine stepW (yE 3 rfl rfl rfl (nb hn rfl) rfl rfl) fun b3 => ?_
 refine sq rfl rfl hn rfl (zE rfl rfl) ?_
 refine zF (zA (zC (zB ?_)))
 refine sq rfl rfl hn rfl (zD rfl rfl) ?_
 refine sq rfl rfl hn rfl (zH rfl rfl Tryz.underlying45 rfl sz3) ?_
 refine sq rfl rfl hn rfl (zO rfl rfl (id := 3) rfl Tryz.underlying3 rfl rfl sees0) ?_
 refine sq rfl rfl hn rfl (yd rfl rfl rfl) ?_
 refine sq rfl rfl hn rfl (zD rfl rfl) ?_
 refine stepG [] (zG rfl rfl rfl) rfl (nb hn rfl) (fun hc => trivial) (fun hc => zH rfl rfl Tryz.underlying45 rfl sz3) ?_
 refine stepG [(12, _)] (zG rfl rfl rfl) rfl (nb hn rfl) (fun hc => ⟨⟨_, rfl, hc⟩, trivial⟩) (fun hc => zO rfl rfl (id := 3) rfl Tryz.underlying3 rfl rfl sees0) ?_
 refine stepG [] (zG rfl rfl rfl) rfl (nb hn rfl) (fun hc => trivial) (fun hc => zH rfl rfl Tryz.underlying45 rfl sz3) ?_
 refine stepG [(14, _)] (zG rfl rfl rfl) rfl (nb hn rfl) (fun hc => ⟨⟨_, rfl, hc⟩, trivial⟩) (fun hc => zO rfl rfl (id := 3) rfl Tryz.underlying3 rfl rfl sees0) ?_
 refine stepG [(13, _), (15, _)] (zG rfl rfl rfl) rfl (nb hn rfl) (fun hc => ⟨⟨_, rfl, hc⟩, ⟨_, rfl, hc⟩, trivial⟩) (fun hc => yd rfl rfl rfl) ?_
 refine sq rfl rfl hn rfl (zx rfl rfl rfl (by intro hB; first | (rw [hB]; rfl) | (rw [hB, hc]; rfl) | simp_all)) ?_
 refine sq rfl rfl hn rfl (zD rfl rfl) ?_
 refine stepG [] (zG rfl rfl rfl) rfl (nb hn rfl) (fun hc => trivial) (fun hc => zH rfl rfl Tryz.underlying45 rfl sz3) ?_
 refine stepG [(19, _)] (zG rfl rfl rfl) rfl (nb hn rfl) (fun hc => ⟨⟨_, rfl, hc⟩, trivial⟩) (fun hc => zO rfl rfl (id := 3) rfl Tryz.underlying3 rfl rfl sees0) ?_
 refine stepG [] (zG rfl rfl rfl) rfl (nb hn rfl) (fun hc => trivial) (fun hc => zD rfl rfl) ?_
 refine stepG [(20, _), (21, _)] (zG rfl rfl rfl) rfl (nb hn rfl) (fun hc => ⟨⟨_, rfl, hc⟩, ⟨_, rfl, hc⟩, trivial⟩) (fun hc => yd rfl rfl rfl) ?_
 refine sq rfl rfl hn rfl (zx rfl rfl rfl (by intro hB; first | (rw [hB]; rfl) | (rw [hB, hc]; rfl) | simp_all)) ?_
 refine sq rfl rfl hn rfl (zE rfl rfl) ?_
 refine zF (zA (zQ ?_))
 exact zu (.inl rfl) hl rfl (.tmp rfl)
theorem zFF (r : Int × Int) (n : Int) : PureAt Tryz.prog 72 [rngD r, .int .i64 n] (.bool (withinB n r.1 r.2)) := by
 refine PureAt.of_awp Tryz.func72 rfl (by kernel_rfl) (Nat.le_of_ble_eq_true rfl) fun Γ hn hl => ?_
 refine zC (zB ?_)
 refine stepW (yE 2 rfl rfl rfl (nb hn rfl) rfl rfl) fun b2 => ?_
 refine sq rfl rfl hn rfl (zE rfl rfl) ?_
 refine zF (zA (zC (zB ?_)))
 refine sq rfl rfl hn rfl (zD rfl rfl) ?_
 refine sq rfl rfl hn rfl (zH rfl rfl Tryz.underlying45 rfl sz3) ?_
 refine sq rfl rfl hn rfl (zO rfl rfl (id := 2) rfl Tryz.underlying3 rfl rfl sees0) ?_
 refine sq rfl rfl hn rfl (zH rfl rfl Tryz.underlying45 rfl sz3) ?_
 refine sq rfl rfl hn rfl (zO rfl rfl (id := 2) rfl Tryz.underlying3 rfl rfl sees0) ?_
 refine stepW (s_call [] (fun _ => yO _ _ _) rfl (zI rfl) rfl (nb hn rfl) (fun _ => trivial) rfl rfl (.refl _)) fun _ => ?_
 refine sq rfl rfl hn rfl (zE rfl rfl) ?_
 refine zF (zA (zQ ?_))
 exact zu (.inl rfl) hl rfl (.tmp rfl)
theorem Span_ok (r : Int × Int) (a b : Int) : PureAt Tryz.prog 73 [rngD r, .int .i64 a, .int .i64 b] (.bool (spansB r.1 r.2 a b)) := by
 refine PureAt.of_awp Tryz.func73 rfl (by kernel_rfl) (Nat.le_of_ble_eq_true rfl) fun Γ hn hl => ?_
 refine zC (zB ?_)
 refine stepW (yE 3 rfl rfl rfl (nb hn rfl) rfl rfl) fun b3 => ?_
 refine sq rfl rfl hn rfl (zE rfl rfl) ?_
 refine zF (zA (zC (zB ?_)))
 refine sq rfl rfl hn rfl (zH rfl rfl Tryz.underlying41 rfl sz3) ?_
 refine sq rfl rfl hn rfl (zO rfl rfl (id := 3) rfl Tryz.underlying3 rfl rfl sees0) ?_
 refine sq rfl rfl hn rfl (zD rfl rfl) ?_
 refine sq rfl rfl hn rfl (kk rfl rfl rfl) ?_
 refine sq rfl rfl hn rfl (zD rfl rfl) ?_
 refine stepG [] (zG rfl rfl rfl) rfl (nb hn rfl) (fun hc => trivial) (fun hc => zH rfl rfl Tryz.underlying41 rfl sz3) ?_
 refine stepG [(12, _)] (zG rfl rfl rfl) rfl (nb hn rfl) (fun hc => ⟨⟨_, rfl, hc⟩, trivial⟩) (fun hc => zO rfl rfl (id := 3) rfl Tryz.underlying3 rfl rfl sees0) ?_
 refine stepG [] (zG rfl rfl rfl) rfl (nb hn rfl) (fun hc => trivial) (fun hc => zH rfl rfl Tryz.underlying41 rfl sz3) ?_
 refine stepG [(14, _)] (zG rfl rfl rfl) rfl (nb hn rfl) (fun hc => ⟨⟨_, rfl, hc⟩, trivial⟩) (fun hc => zO rfl rfl (id := 3) rfl Tryz.underlying3 rfl rfl sees0) ?_
 refine stepG [(13, _), (15, _)] (zG rfl rfl rfl) rfl (nb hn rfl) (fun hc => ⟨⟨_, rfl, hc⟩, ⟨_, rfl, hc⟩, trivial⟩) (fun hc => yd rfl rfl rfl) ?_
 refine sq rfl rfl hn rfl (zx rfl rfl rfl (by intro hB; first | (rw [hB]; rfl) | (rw [hB, hc]; rfl) | simp_all)) ?_
 refine sq rfl rfl hn rfl (zD rfl rfl) ?_
 refine stepG [] (zG rfl rfl rfl) rfl (nb hn rfl) (fun hc => trivial) (fun hc => zH rfl rfl Tryz.underlying41 rfl sz3) ?_
 refine stepG [(19, _)] (zG rfl rfl rfl) rfl (nb hn rfl) (fun hc => ⟨⟨_, rfl, hc⟩, trivial⟩) (fun hc => zO rfl rfl (id := 3) rfl Tryz.underlying3 rfl rfl sees0) ?_
 refine stepG [] (zG rfl rfl rfl) rfl (nb hn rfl) (fun hc => trivial) (fun hc => zD rfl rfl) ?_
 refine stepG [(20, _), (21, _)] (zG rfl rfl rfl) rfl (nb hn rfl) (fun hc => ⟨⟨_, rfl, hc⟩, ⟨_, rfl, hc⟩, trivial⟩) (fun hc => yd rfl rfl rfl) ?_
 refine sq rfl rfl hn rfl (zx rfl rfl rfl (by intro hB; first | (rw [hB]; rfl) | (rw [hB, hc]; rfl) | simp_all)) ?_
 refine sq rfl rfl hn rfl (zE rfl rfl) ?_
 refine zF (zA (zQ ?_))
 exact zu (.inl rfl) hl rfl (.tmp rfl)
theorem zF5 (r : Int × Int) : PureAt Tryz.prog 26 [rngD r] (rngD r) := by
 refine PureAt.of_awp Tryz.func26 rfl (by kernel_rfl) (Nat.le_of_ble_eq_true rfl) fun Γ hn hl => ?_
 refine zC (zB ?_)
 refine stepW (yE 1 rfl rfl rfl (nb hn rfl) rfl rfl) fun b1 => ?_
 refine stepW (yA 2 rfl rfl rfl (nb hn rfl) zr45 rfl rfl) fun b2 => ?_
 refine zF (zA (zC (zB ?_)))
 refine sq rfl rfl hn rfl (zH rfl rfl Tryz.underlying41 rfl sz3) ?_
 refine sq rfl rfl hn rfl (zO rfl rfl (id := 1) rfl Tryz.underlying3 rfl rfl sees0) ?_
 refine sq rfl rfl hn rfl (zH rfl rfl Tryz.underlying41 rfl sz3) ?_
 refine sq rfl rfl hn rfl (zO rfl rfl (id := 1) rfl Tryz.underlying3 rfl rfl sees0) ?_
 refine sq rfl rfl hn rfl (ze rfl bt45 rfl rfl rfl rfl rfl) ?_
 refine stepW (zo rfl rfl rfl rfl rfl rfl (id := 2) rfl sz45 rfl (Nat.le_of_ble_eq_true rfl) rfl trivial) fun _ => ?_
 refine zF (zA (zQ ?_))
 exact zu (.inl rfl) hl rfl (.cellA rfl (id := 2) rfl Tryz.underlying45 rfl sz45 rfl rfl)
theorem yf (a b : Int) : PureAt Tryz.prog 50 [.int .i64 a, .int .i64 b] (rngD (a, b)) := by
 refine PureAt.of_awp Tryz.func50 rfl (by kernel_rfl) (Nat.le_of_ble_eq_true rfl) fun Γ hn hl => ?_
 refine zC (zB ?_)
 refine stepW (yA 4 rfl rfl rfl (nb hn rfl) zr45 rfl rfl) fun b4 => ?_
 refine zF (zA (zC (zB ?_)))
 refine sq rfl rfl hn rfl (zD rfl rfl) ?_
 refine sq rfl rfl hn rfl (zD rfl rfl) ?_
 refine sq rfl rfl hn rfl (ze rfl bt45 rfl rfl rfl rfl rfl) ?_
 refine stepW (zo rfl rfl rfl rfl rfl rfl (id := 4) rfl sz45 rfl (Nat.le_of_ble_eq_true rfl) rfl trivial) fun _ => ?_
 refine zF (zA (zQ ?_))
 exact zu (.inl rfl) hl rfl (.cellA rfl (id := 4) rfl Tryz.underlying45 rfl sz45 rfl rfl)
end Go.Proofs.YtplpcamcnppibaaGreatDoor
namespace Go.Proofs.YtplpcamcnppibaaGreatDoor
open Go.RowKit
set_option maxRecDepth 20000
set_option linter.all false
def eqN (s o : Stk) : Bool := o.name == s.name
def stockB (b : Brd) (s : Stk) : Bool := ((b.stocks.countP (eqN s) : Int) == 1) && namedB s.name && spansB s.lo s.hi 1 799
def limT (b : Brd) : Bool := decide (4 < (b.stocks.length : Int))
def argT (b : Brd) : Bool := ((b.stocks.length : Int) == 0) || !(withinB b.jump 0 40) || !(withinB b.small 1 9) || !(b.stocks.all (stockB b))
def checkT (b : Brd) : Int := bif limT b then 3 else bif argT b then 1 else 0
/-- What the rows know of names' lengths. -/
def NamesOK (b : Brd) : Prop := ∀ s ∈ b.stocks, s.name.length ≤ 140737488355328
theorem yX {l : List Stk} {p : Stk → Bool} {i : Nat} {x : Stk} (h : l[i]? = some x) : (l.take (i + 1)).countP p = (l.take i).countP p + (if p x then 1 else 0) := by
  rw [List.take_add_one, h]
  simp [List.countP_append, List.countP_cons]
theorem countP_le_n {l : List Stk} {p : Stk → Bool} {i : Nat} : (l.take i).countP p ≤ i := Nat.le_trans List.countP_le_length (by simp; omega)
/-- What Fault asks of a stock. -/
def okS (s : Stk) : Bool := namedB s.name && spansB s.lo s.hi 1 799
def FreshTo (l : List Stk) (i : Nat) : Prop := ∀ j, j < i → ∀ s, l[j]? = some s → okS s = true ∧ ∀ k, k < j → ∀ o, l[k]? = some o → eqN s o = false
theorem count_one {l : List Stk} (h : l.Pairwise fun a b => a.name ≠ b.name) : ∀ s ∈ l, l.countP (eqN s) = 1 := by
  induction l with
  | nil => exact fun _ h => by cases h
  | cons x l ih =>
    rw [List.pairwise_cons] at h
    intro s hs
    rw [List.countP_cons]
    rcases List.mem_cons.1 hs with rfl | hs
    · have : l.countP (eqN s) = 0 := by
        rw [List.countP_eq_zero]
        intro o ho
        have := h.1 o ho
        simp [eqN]
        exact fun e => this e.symm
      rw [this]; simp [eqN]
    · rw [ih h.2 s hs]
      have := h.1 s hs
      simp [eqN, this]
theorem fresh_pair {l : List Stk} (h : FreshTo l l.length) : l.Pairwise fun a b => a.name ≠ b.name := by
  rw [List.pairwise_iff_getElem]
  intro i j hi hj hij
  have := (h j hj _ (List.getElem?_eq_getElem hj)).2 i hij _ (List.getElem?_eq_getElem hi)
  simpa [eqN] using this
theorem fresh_all {b : Brd} (h : FreshTo b.stocks b.stocks.length) : b.stocks.all (stockB b) = true := by
  rw [List.all_eq_true]
  intro s hs
  obtain ⟨j, hj⟩ := List.getElem?_of_mem hs
  have h1 := (h j (List.getElem?_eq_some_iff.1 hj).1 s hj).1
  have h2 := count_one (fresh_pair h) s hs
  unfold okS at h1
  rw [Bool.and_eq_true] at h1
  simp [stockB, h2, h1.1, h1.2]
theorem bad_ok {b : Brd} {i : Nat} {s : Stk} (h : b.stocks[i]? = some s) (hs : okS s = false) : b.stocks.all (stockB b) = false := by
  rw [List.all_eq_false]
  refine ⟨s, List.mem_of_getElem? h, ?_⟩
  unfold okS at hs
  intro k
  unfold stockB at k
  simp only [Bool.and_eq_true] at k
  rw [k.1.2, k.2] at hs
  cases hs
theorem bad_twin {b : Brd} {i k : Nat} {s o : Stk} (h : b.stocks[i]? = some s) (ho : b.stocks[k]? = some o) (hk : k < i) (he : eqN s o = true) : b.stocks.all (stockB b) = false := by
  rw [List.all_eq_false]
  refine ⟨s, List.mem_of_getElem? h, ?_⟩
  have h1 : (b.stocks.take (k + 1)).countP (eqN s) = (b.stocks.take k).countP (eqN s) + 1 := by rw [yX ho, if_pos he]
  have h2 : (b.stocks.take (i + 1)).countP (eqN s) = (b.stocks.take i).countP (eqN s) + 1 := by rw [yX h, if_pos (by simp [eqN])]
  have h3 : (b.stocks.take (k + 1)).countP (eqN s) ≤ (b.stocks.take i).countP (eqN s) := by
    rw [show b.stocks.take (k + 1) = (b.stocks.take i).take (k + 1) by rw [List.take_take, Nat.min_eq_left (by omega)]]
    exact (List.take_sublist _ _).countP_le
  have h4 : (b.stocks.take (i + 1)).countP (eqN s) ≤ b.stocks.countP (eqN s) := (List.take_sublist _ _).countP_le
  intro q
  unfold stockB at q
  simp only [Bool.and_eq_true, beq_iff_eq] at q
  omega
theorem zAi {b : Brd} (h : limT b = false) (k : argT b = true) : checkT b = 1 := by simp [checkT, h, k]
theorem zD8 {b : Brd} (h : limT b = true) : checkT b = 3 := by simp [checkT, h]
theorem zDz {b : Brd} (h : limT b = false) (k : argT b = false) : checkT b = 0 := by simp [checkT, h, k]
theorem argT_all {b : Brd} (h : (((b.stocks.length : Int) == 0) || !(withinB b.jump 0 40) || !(withinB b.small 1 9)) = false) : argT b = !(b.stocks.all (stockB b)) := by unfold argT; rw [h]; rfl
theorem zEJ {b : Brd} (h : b.stocks.all (stockB b) = false) : argT b = true := by simp [argT, h]
def twoB : Brd := ⟨[⟨[65, 66], 300, 310⟩, ⟨[67], 75, 79⟩], 10, 4⟩
def thinT (b : Brd) (n : Int) : Bool := (b.stocks.take 8).all (fun s => decide ((s.name.length : Int) ≤ 9)) && (decide ((b.stocks.length : Int) ≤ 7) && decide (n ≤ 200))
theorem sz4 : Sz Tryz.prog 4 1 := (by kernel_rfl : (Tryz.prog.info? 4).map (·.size) = some 1)
theorem sz9 : Sz Tryz.prog 9 1 := (by kernel_rfl : (Tryz.prog.info? 9).map (·.size) = some 1)
theorem sz22 : Sz Tryz.prog 22 1 := (by kernel_rfl : (Tryz.prog.info? 22).map (·.size) = some 1)
theorem sz24 : Sz Tryz.prog 24 3 := (by kernel_rfl : (Tryz.prog.info? 24).map (·.size) = some 3)
theorem sz31 : Sz Tryz.prog 31 1 := (by kernel_rfl : (Tryz.prog.info? 31).map (·.size) = some 1)
theorem sz33 : Sz Tryz.prog 33 3 := (by kernel_rfl : (Tryz.prog.info? 33).map (·.size) = some 3)
theorem sz41 : Sz Tryz.prog 41 2 := (by kernel_rfl : (Tryz.prog.info? 41).map (·.size) = some 2)
theorem sz43 : Sz Tryz.prog 43 8 := (by kernel_rfl : (Tryz.prog.info? 43).map (·.size) = some 8)
theorem sz61 : Sz Tryz.prog 61 5 := (by kernel_rfl : (Tryz.prog.info? 61).map (·.size) = some 5)
theorem sz98 : Sz Tryz.prog 98 3 := (by kernel_rfl : (Tryz.prog.info? 98).map (·.size) = some 3)
theorem zr33 : (Tryz.prog.info? 33).map (·.zero) = some (some (.agg #[(.slice none 0 0), (.int .i64 0), (.int .i64 0)])) := by kernel_rfl
theorem zr41 : (Tryz.prog.info? 41).map (·.zero) = some (some (.agg #[(.int .i64 0), (.int .i64 0)])) := by kernel_rfl
theorem zr43 : (Tryz.prog.info? 43).map (·.zero) = some (some (.agg #[(.int .i64 0), (.int .i64 0), (.int .i64 0), (.int .i64 0), (.bool false), (.int .i64 0), (.int .i64 0), (.int .i64 0)])) := by kernel_rfl
theorem zr61 : (Tryz.prog.info? 61).map (·.zero) = some (some (.agg #[(.int .i64 0), (.int .i64 0), (.int .i64 0), (.int .i64 0), (.int .i64 0)])) := by kernel_rfl
theorem zr98 : (Tryz.prog.info? 98).map (·.zero) = some (some (.agg #[(.string ⟨#[]⟩), (.int .i64 0), (.int .i64 0)])) := by kernel_rfl
theorem zr117 : (Tryz.prog.info? 117).map (·.zero) = some (some (.agg #[(.string ⟨#[]⟩), (.int .i64 0), (.int .i64 0)])) := by kernel_rfl
theorem bt33 : BT Tryz.prog 33 (.agg #[(.slice none 0 0), (.int .i64 0), (.int .i64 0)]) (fun i => ([(0, 1), (1, 1), (2, 1)] : List (Nat × Nat))[i]?) := yQ Tryz.underlying33 zr33 (by kernel_rfl)
theorem bt41 : BT Tryz.prog 41 (.agg #[(.int .i64 0), (.int .i64 0)]) (fun i => ([(0, 1), (1, 1)] : List (Nat × Nat))[i]?) := yQ Tryz.underlying41 zr41 (by kernel_rfl)
theorem bt43 : BT Tryz.prog 43 (.agg #[(.int .i64 0), (.int .i64 0), (.int .i64 0), (.int .i64 0), (.bool false), (.int .i64 0), (.int .i64 0), (.int .i64 0)]) (fun i => ([(0, 1), (1, 2), (3, 1), (4, 1), (5, 1), (6, 2)] : List (Nat × Nat))[i]?) := yQ Tryz.underlying43 zr43 (by kernel_rfl)
theorem bt61 : BT Tryz.prog 61 (.agg #[(.int .i64 0), (.int .i64 0), (.int .i64 0), (.int .i64 0), (.int .i64 0)]) (fun i => ([(0, 1), (1, 1), (2, 1), (3, 2)] : List (Nat × Nat))[i]?) := yQ Tryz.underlying61 zr61 (by kernel_rfl)
theorem bt117 : BT Tryz.prog 117 (.agg #[(.string ⟨#[]⟩), (.int .i64 0), (.int .i64 0)]) (fun i => ([(0, 1), (1, 2)] : List (Nat × Nat))[i]?) := yQ Tryz.underlying117 zr117 (by kernel_rfl)
theorem fmo : Tryz.prog.follows .mixedOrders = true := by kernel_rfl
theorem stock_ok (b : Brd) (s : Stk) (h5 : s.name.length ≤ 140737488355328) : PureAt Tryz.prog 64 [brdD b, .agg (stkE s)] (.bool (stockB b s)) := by
 refine PureAt.of_awp' Tryz.func64 rfl (by kernel_rfl) rfl fun hlen Γ hn hl => ?_
 have hl5 := hlen.1 3 (b.stocks.map stkE) (by simp)
 simp only [List.length_map] at hl5
 refine zC (zB ?_)
 refine stepW (yE 2 rfl rfl rfl (nb hn rfl) rfl rfl) fun b2 => ?_
 refine stepW (yE 3 rfl rfl rfl (nb hn rfl) rfl rfl) fun b3 => ?_
 refine sq rfl rfl hn rfl (zE rfl rfl) ?_
 refine zF (zA (zC (zB ?_)))
 refine sq rfl rfl hn rfl (zE rfl rfl) ?_
 refine zF (zA (zC (zC (zB ?_))))
 refine sq rfl rfl hn rfl (zH rfl rfl Tryz.underlying33 rfl sz31) ?_
 refine sq rfl rfl hn rfl (zO rfl rfl (id := 2) rfl Tryz.underlying31 rfl rfl sees0) ?_
 refine sq rfl rfl hn rfl (yI rfl rfl Tryz.underlying31) ?_
 refine sq rfl rfl hn rfl (zD rfl rfl) ?_
 refine zF (zA (zU ?_))
 refine awp_loop_on (ι := {i : Nat // i ≤ b.stocks.length}) (fun x => (11, true, .d (.int .i64 (x.1 : Nat))) :: (5, true, .d (.int .i64 ((b.stocks.take x.1).countP (eqN s) : Nat))) :: anys [12, 13, 14, 7, 15, 16, 17, 18, 19, 20, 21, 22]) (fun x => gones [7]) (fun x => b.stocks.length - x.1) ⟨0, Nat.zero_le _⟩ ⟨.inl rfl, .inl rfl, zK _⟩ (zi _) ?_
 rintro ⟨i, hi⟩
 dsimp only
 refine zC (zB ?_)
 refine sq rfl rfl hn rfl (yF rfl rfl rfl) ?_
 refine zF (zA (zC ?_))
 refine zN rfl (fun hb0 => ?_) (fun hb0 => ?_)
 ·
  have hlt : i < b.stocks.length := by simp at hb0; omega
  obtain ⟨o, ho⟩ := zn hlt
  have hcl := countP_le_n (l := b.stocks) (p := eqN s) (i := i)
  refine zP (zA (zC (zU (zC (zB ?_)))))
  refine sq rfl rfl hn rfl (q_index (i := i) rfl rfl rfl Tryz.underlying31 sz117 rfl (mget ho)) ?_
  refine sq rfl rfl hn rfl (yM rfl rfl Tryz.underlying117 rfl sz117 rfl rfl seesF0) ?_
  refine stepW (yA 7 rfl rfl rfl (nb hn rfl) zr117 rfl rfl) fun b7 => ?_
  refine stepW (zo rfl rfl rfl rfl rfl rfl (id := 7) rfl sz117 rfl (Nat.le_of_ble_eq_true rfl) rfl trivial) fun _ => ?_
  refine zF (zA (zC (zB ?_)))
  refine sq rfl rfl hn rfl (zH rfl rfl Tryz.underlying117 rfl sz9) ?_
  refine sq rfl rfl hn rfl (zO rfl rfl (id := 7) rfl Tryz.underlying9 rfl rfl sees0) ?_
  refine sq rfl rfl hn rfl (zH rfl rfl Tryz.underlying117 rfl sz9) ?_
  refine sq rfl rfl hn rfl (zO rfl rfl (id := 3) rfl Tryz.underlying9 rfl rfl sees0) ?_
  refine sq rfl rfl hn rfl (kJ rfl rfl rfl) ?_
  refine zF (zA ?_)
  refine z7 (e := .normal) (ι := Unit) (fun x => (5, true, .d (.int .i64 ((b.stocks.take (i + 1)).countP (eqN s) : Nat))) :: anys [20, 21]) (fun x => []) (fun hJ1 => ?_) ?_
  ·
   refine zN rfl (fun hb1 => ?_) (fun hb1 => ?_)
   ·
    have hq5 : eqN s o = true := hb1
    refine zB ?_
    refine sq rfl rfl hn rfl (zD rfl rfl) ?_
    refine sq rfl rfl hn rfl (zp rfl rfl rfl (r := (((b.stocks.take (i + 1)).countP (eqN s) : Nat) : Int)) (i64w (by omega) (by rw [yX ho, if_pos hq5]; omega))) ?_
    refine sq rfl rfl hn rfl (zE rfl rfl) ?_
    refine zF ?_
    exact aend_join_on hJ1 () ⟨.inl rfl, zK _⟩ trivial (by repeat (first | exact kr _ | refine kc rfl ?_)) (by repeat (first | exact kr _ | refine kc rfl ?_))
   ·
    have hq6 : eqN s o = false := hb1
    have hq7 : (b.stocks.take i).countP (eqN s) = (b.stocks.take (i + 1)).countP (eqN s) := by rw [yX ho, hq6]; simp
    refine zP ?_
    exact aend_join_on hJ1 () ⟨.inl (congrArg (fun n : Nat => some (true, TV.d (.int .i64 (n : Int)))) hq7), zK _⟩ trivial (by repeat (first | exact kr _ | refine kc rfl ?_)) (by repeat (first | exact kr _ | refine kc rfl ?_))
  ·
   rintro _
   refine zS (zA (zB ?_))
   refine sq rfl rfl hn rfl (zp rfl rfl rfl (r := ((i + 1 : Nat) : Int)) (i64w (by omega) (by omega))) ?_
   refine sq rfl rfl hn rfl (zD rfl rfl) ?_
   refine zF ?_
   exact zR ⟨i + 1, by omega⟩ ⟨.inl rfl, .inl rfl, zK _⟩ (zi _) (by simp only; omega) (by repeat (first | exact kr _ | refine kc rfl ?_)) (by repeat (first | exact kr _ | refine kc rfl ?_))
 ·
  have hie : i = b.stocks.length := by simp at hb0; omega
  subst hie
  rw [List.take_length]
  refine zk (zM (zM (zV (zA (zC (zB ?_))))))
  refine sq rfl rfl hn rfl (zD rfl rfl) ?_
  refine sq rfl rfl hn rfl (yD rfl rfl rfl) ?_
  refine sq rfl rfl hn rfl (zD rfl rfl) ?_
  refine stepG [] (zG rfl rfl rfl) rfl (nb hn rfl) (fun hc => trivial) (fun hc => zH rfl rfl Tryz.underlying117 rfl sz9) ?_
  refine stepG [(26, _)] (zG rfl rfl rfl) rfl (nb hn rfl) (fun hc => ⟨⟨_, rfl, hc⟩, trivial⟩) (fun hc => zO rfl rfl (id := 3) rfl Tryz.underlying9 rfl rfl sees0) ?_
  refine stepW (s_call [(27, _)] (fun hc => zEX _ (by omega)) rfl (zG rfl rfl rfl) rfl (nb hn rfl) (fun hc => ⟨⟨_, rfl, hc⟩, trivial⟩) rfl rfl (.refl _)) fun _ => ?_
  refine sq rfl rfl hn rfl (zx rfl rfl rfl (by intro hB; first | (rw [hB]; rfl) | (rw [hB, hc]; rfl) | simp_all)) ?_
  refine sq rfl rfl hn rfl (zD rfl rfl) ?_
  refine stepG [] (zG rfl rfl rfl) rfl (nb hn rfl) (fun hc => trivial) (fun hc => zH rfl rfl Tryz.underlying117 rfl sz45) ?_
  refine stepG [(31, _)] (zG rfl rfl rfl) rfl (nb hn rfl) (fun hc => ⟨⟨_, rfl, hc⟩, trivial⟩) (fun hc => zf rfl rfl (id := 3) rfl Tryz.underlying45 rfl sz45 rfl rfl sees0) ?_
  refine stepW (s_call [(32, _)] (fun hc => zCl (_, _) _ _) rfl (zG rfl rfl rfl) rfl (nb hn rfl) (fun hc => ⟨⟨_, rfl, hc⟩, trivial⟩) rfl rfl (.refl _)) fun _ => ?_
  refine sq rfl rfl hn rfl (zx rfl rfl rfl (by intro hB; first | (rw [hB]; rfl) | (rw [hB, hc]; rfl) | simp_all)) ?_
  refine sq rfl rfl hn rfl (zE rfl rfl) ?_
  refine zF (zA (zQ ?_))
  exact zu (.inl rfl) hl rfl (.tmp rfl)
theorem zAq (b : Brd) (hN : NamesOK b) : PureAt Tryz.prog 21 [brdD b] (.int .i64 (checkT b)) := by
 refine PureAt.of_awp Tryz.func21 rfl (by kernel_rfl) (Nat.le_of_ble_eq_true rfl) fun Γ hn hl => ?_
 refine zC (zB ?_)
 refine stepW (yE 1 rfl rfl rfl (nb hn rfl) rfl rfl) fun b1 => ?_
 refine sq rfl rfl hn rfl (zE rfl rfl) ?_
 refine zF (zA (zC (zB ?_)))
 refine sq rfl rfl hn rfl (zf rfl rfl (id := 1) rfl Tryz.underlying33 rfl sz33 rfl rfl sees0) ?_
 refine sq rfl rfl hn rfl (kA rfl rfl rfl) ?_
 refine sq rfl rfl hn rfl (zE rfl rfl) ?_
 refine zF (zA (zC (zU (zC (zB ?_)))))
 refine sq rfl rfl hn rfl (zH rfl rfl Tryz.underlying33 rfl sz31) ?_
 refine sq rfl rfl hn rfl (zO rfl rfl (id := 1) rfl Tryz.underlying31 rfl rfl sees0) ?_
 refine sq rfl rfl hn rfl (yI rfl rfl Tryz.underlying31) ?_
 refine sq rfl rfl hn rfl (yh rfl rfl rfl) ?_
 refine sq rfl rfl hn rfl (zE rfl rfl) ?_
 refine zF (zA ?_)
 refine zN rfl (fun hb0 => ?_) (fun hb0 => ?_)
 ·
  refine zC (zB ?_)
  refine sq rfl rfl hn rfl (zE rfl rfl) ?_
  refine zF (zA (zQ (zX (zL ?_))))
  refine z6 (zu (.inl rfl) hl rfl (.tmp rfl)) ?_
  rw [zD8 (by simpa [limT] using hb0)]
 ·
  refine zC (zB ?_)
  refine sq rfl rfl hn rfl (zH rfl rfl Tryz.underlying33 rfl sz31) ?_
  refine sq rfl rfl hn rfl (zO rfl rfl (id := 1) rfl Tryz.underlying31 rfl rfl sees0) ?_
  refine sq rfl rfl hn rfl (yI rfl rfl Tryz.underlying31) ?_
  refine sq rfl rfl hn rfl (yD rfl rfl rfl) ?_
  refine sq rfl rfl hn rfl (zD rfl rfl) ?_
  refine stepG [] (zG rfl rfl rfl) rfl (nb hn rfl) (fun hc => trivial) (fun hc => zH rfl rfl Tryz.underlying33 rfl sz3) ?_
  refine stepG [(17, _)] (zG rfl rfl rfl) rfl (nb hn rfl) (fun hc => ⟨⟨_, rfl, hc⟩, trivial⟩) (fun hc => zO rfl rfl (id := 1) rfl Tryz.underlying3 rfl rfl sees0) ?_
  refine stepW (s_call [(18, _)] (fun hc => yO _ _ _) rfl (zG rfl rfl rfl) rfl (nb hn rfl) (fun hc => ⟨⟨_, rfl, hc⟩, trivial⟩) rfl rfl (.refl _)) fun _ => ?_
  refine stepG [(19, _)] (zG rfl rfl rfl) rfl (nb hn rfl) (fun hc => ⟨⟨_, rfl, hc⟩, trivial⟩) (fun hc => yN rfl rfl) ?_
  refine sq rfl rfl hn rfl (q_or rfl rfl rfl (by intro hB; first | (rw [hB]; rfl) | (rw [hB, hc]; rfl) | simp_all)) ?_
  refine sq rfl rfl hn rfl (zD rfl rfl) ?_
  refine stepG [] (zG rfl rfl rfl) rfl (nb hn rfl) (fun hc => trivial) (fun hc => zH rfl rfl Tryz.underlying33 rfl sz3) ?_
  refine stepG [(23, _)] (zG rfl rfl rfl) rfl (nb hn rfl) (fun hc => ⟨⟨_, rfl, hc⟩, trivial⟩) (fun hc => zO rfl rfl (id := 1) rfl Tryz.underlying3 rfl rfl sees0) ?_
  refine stepW (s_call [(24, _)] (fun hc => yO _ _ _) rfl (zG rfl rfl rfl) rfl (nb hn rfl) (fun hc => ⟨⟨_, rfl, hc⟩, trivial⟩) rfl rfl (.refl _)) fun _ => ?_
  refine stepG [(25, _)] (zG rfl rfl rfl) rfl (nb hn rfl) (fun hc => ⟨⟨_, rfl, hc⟩, trivial⟩) (fun hc => yN rfl rfl) ?_
  refine sq rfl rfl hn rfl (q_or rfl rfl rfl (by intro hB; first | (rw [hB]; rfl) | (rw [hB, hc]; rfl) | simp_all)) ?_
  refine sq rfl rfl hn rfl (zD rfl rfl) ?_
  refine stepG [] (zG rfl rfl rfl) rfl (nb hn rfl) (fun hc => trivial) (fun hc => zH rfl rfl Tryz.underlying33 rfl sz31) ?_
  refine stepG [(29, _)] (zG rfl rfl rfl) rfl (nb hn rfl) (fun hc => ⟨⟨_, rfl, hc⟩, trivial⟩) (fun hc => zO rfl rfl (id := 1) rfl Tryz.underlying31 rfl rfl sees0) ?_
  refine stepG [] (zG rfl rfl rfl) rfl (nb hn rfl) (fun hc => trivial) (fun hc => zD rfl rfl) ?_
  refine stepW (s_call [(30, _), (31, _)] (fun hc => all_stk b.stocks (stockB b) 64 [brdD b] [] (fun x hx => stock_ok b x (hN x hx))) rfl (zG rfl rfl rfl) rfl (nb hn rfl) (fun hc => ⟨⟨_, rfl, hc⟩, ⟨_, rfl, hc⟩, trivial⟩) rfl rfl (.refl _)) fun _ => ?_
  refine stepG [(32, _)] (zG rfl rfl rfl) rfl (nb hn rfl) (fun hc => ⟨⟨_, rfl, hc⟩, trivial⟩) (fun hc => yN rfl rfl) ?_
  refine sq rfl rfl hn rfl (q_or rfl rfl rfl (by intro hB; first | (rw [hB]; rfl) | (rw [hB, hc]; rfl) | simp_all)) ?_
  refine sq rfl rfl hn rfl (zE rfl rfl) ?_
  refine zF (zA ?_)
  refine zN rfl (fun hb1 => ?_) (fun hb1 => ?_)
  ·
   refine zC (zB ?_)
   refine sq rfl rfl hn rfl (zE rfl rfl) ?_
   refine zF (zA (zQ (zX (zL ?_))))
   refine z6 (zu (.inl rfl) hl rfl (.tmp rfl)) ?_
   simp only [List.length_map] at hb0 hb1; rw [zAi (by simpa [limT] using hb0) hb1]
  ·
   refine zP (zS (zA (zC (zB ?_))))
   refine sq rfl rfl hn rfl (zE rfl rfl) ?_
   refine zF (zA (zQ ?_))
   refine z6 (zu (.inl rfl) hl rfl (.tmp rfl)) ?_
   simp only [List.length_map] at hb0 hb1; rw [zDz (by simpa [limT] using hb0) hb1]
theorem zC5 (s : List UInt8) (h5 : s.length ≤ 140737488355328) : PureAt Tryz.prog 100 [strD s] (.bool (namedB s)) := by
 refine PureAt.of_awp Tryz.func100 rfl (by kernel_rfl) (Nat.le_of_ble_eq_true rfl) fun Γ hn hl => ?_
 refine zC (zB ?_)
 refine sq rfl rfl hn rfl (zE rfl rfl) ?_
 refine zF (zA (zC (zC (zB ?_))))
 refine sq rfl rfl hn rfl (zE rfl rfl) ?_
 refine zF (zA (zU ?_))
 refine awp_loop_on (ι := {i : Nat // i ≤ s.length ∧ (s.take i).all letterB = true}) (fun x => (3, true, .d (.int .i64 (x.1 : Nat))) :: anys [4, 5, 6, 7, 10, 11, 12, 13, 14, 15, 16, 17, 18, 19, 8, 9]) (fun x => []) (fun x => s.length - x.1) ⟨0, by simp⟩ ⟨.inl rfl, zK _⟩ trivial ?_
 rintro ⟨i, hi, hall⟩
 dsimp only
 refine zC (zC (zB ?_))
 refine sq rfl rfl hn rfl (zD rfl rfl) ?_
 refine sq rfl rfl hn rfl (zD rfl rfl) ?_
 refine sq rfl rfl hn rfl (yY rfl rfl Tryz.underlying9) ?_
 refine sq rfl rfl hn rfl (yF rfl rfl rfl) ?_
 refine zF (zA ?_)
 refine zN rfl (fun hb0 => ?_) (fun hb0 => ?_)
 ·
  rw [zm] at hb0
  have hlt : i < s.length := by simp at hb0; omega
  obtain ⟨x, hx⟩ := zn hlt
  refine zP (zA (zC (zU (zC (zB ?_)))))
  refine sq rfl rfl hn rfl (zD rfl rfl) ?_
  refine sq rfl rfl hn rfl (zD rfl rfl) ?_
  refine sq rfl rfl hn rfl (yV (i := i) rfl rfl rfl Tryz.underlying9 rfl hx) ?_
  refine sq rfl rfl hn rfl (yF rfl rfl rfl) ?_
  refine sq rfl rfl hn rfl (zD rfl rfl) ?_
  refine stepG [] (zG rfl rfl rfl) rfl (nb hn rfl) (fun hc => trivial) (fun hc => zD rfl rfl) ?_
  refine stepG [] (zG rfl rfl rfl) rfl (nb hn rfl) (fun hc => trivial) (fun hc => zD rfl rfl) ?_
  refine stepG [(15, _), (16, _)] (zG rfl rfl rfl) rfl (nb hn rfl) (fun hc => ⟨⟨_, rfl, hc⟩, ⟨_, rfl, hc⟩, trivial⟩) (fun hc => yV (i := i) rfl rfl rfl Tryz.underlying9 rfl hx) ?_
  refine stepG [(17, _)] (zG rfl rfl rfl) rfl (nb hn rfl) (fun hc => ⟨⟨_, rfl, hc⟩, trivial⟩) (fun hc => yh rfl rfl rfl) ?_
  refine sq rfl rfl hn rfl (q_or rfl rfl rfl (by intro hB; first | (rw [hB]; rfl) | (rw [hB, hc]; rfl) | simp_all)) ?_
  refine zF (zA ?_)
  refine zN rfl (fun hb1 => ?_) (fun hb1 => ?_)
  ·
   have hl6 : letterB x = false := by unfold letterB; simp at hb1 ⊢; omega
   refine zC (zB ?_)
   refine sq rfl rfl hn rfl (zE rfl rfl) ?_
   refine zF (zA (zQ (zX (zL (zL (zX (zL ?_)))))))
   refine z6 (zu (.inl rfl) hl rfl (.tmp rfl)) ?_
   rw [show namedB s = false from by unfold namedB; rw [List.all_eq_false.2 ⟨x, List.mem_of_getElem? hx, by simp [hl6]⟩]; simp]
  ·
   have hl6 : letterB x = true := by unfold letterB; simp at hb1 ⊢; omega
   refine zP (zS (zA (zB ?_)))
   refine sq rfl rfl hn rfl (zD rfl rfl) ?_
   refine sq rfl rfl hn rfl (zp rfl rfl rfl (r := ((i + 1 : Nat) : Int)) (i64w (by omega) (by omega))) ?_
   refine sq rfl rfl hn rfl (zE rfl rfl) ?_
   refine zF ?_
   exact zR ⟨i + 1, by omega, y9 hx hall hl6⟩ ⟨.inl rfl, zK _⟩ trivial (by simp only; omega) (by repeat (first | exact kr _ | refine kc rfl ?_)) (by repeat (first | exact kr _ | refine kc rfl ?_))
 ·
  rw [zm] at hb0
  have hie : i = s.length := by simp at hb0; omega
  subst hie
  rw [List.take_length] at hall
  refine zk (zM (zM (zV (zA (zC (zB ?_))))))
  refine sq rfl rfl hn rfl (zD rfl rfl) ?_
  refine sq rfl rfl hn rfl (yY rfl rfl Tryz.underlying9) ?_
  refine stepW (s_call [] (fun _ => zBL _ _ _) rfl (zI rfl) rfl (nb hn rfl) (fun _ => trivial) rfl rfl (.refl _)) fun _ => ?_
  refine sq rfl rfl hn rfl (zE rfl rfl) ?_
  refine zF (zA (zQ ?_))
  refine z6 (zu (.inl rfl) hl rfl (.tmp rfl)) ?_
  rw [zm]; unfold namedB; rw [hall]; simp
theorem Fault_ok (b : Brd) (hN : NamesOK b) : PureAt Tryz.prog 67 [brdD b] (.int .i64 (checkT b)) := by
 refine PureAt.of_awp' Tryz.func67 rfl (by kernel_rfl) rfl fun hlen Γ hn hl => ?_
 have hl5 := hlen.1 3 (b.stocks.map stkE) (by simp)
 simp only [List.length_map] at hl5
 refine zC (zB ?_)
 refine stepW (yE 1 rfl rfl rfl (nb hn rfl) rfl rfl) fun b1 => ?_
 refine sq rfl rfl hn rfl (zE rfl rfl) ?_
 refine zF (zA (zC (zC (zB ?_))))
 refine sq rfl rfl hn rfl (zH rfl rfl Tryz.underlying24 rfl sz22) ?_
 refine sq rfl rfl hn rfl (zO rfl rfl (id := 1) rfl Tryz.underlying22 rfl rfl sees0) ?_
 refine sq rfl rfl hn rfl (yI rfl rfl Tryz.underlying22) ?_
 refine sq rfl rfl hn rfl (yh rfl rfl rfl) ?_
 refine zF (zA ?_)
 refine zN rfl (fun hb0 => ?_) (fun hb0 => ?_)
 ·
  have hlim : limT b = true := by simpa [limT] using hb0
  refine zC (zB ?_)
  refine sq rfl rfl hn rfl (zE rfl rfl) ?_
  refine zF (zA (zQ (zL ?_)))
  refine z6 (zu (.inl rfl) hl rfl (.tmp rfl)) ?_
  rw [zD8 hlim]
 ·
  have hlim : limT b = false := by simpa [limT] using hb0
  refine zP (zA (zC (zC (zB ?_))))
  refine sq rfl rfl hn rfl (zH rfl rfl Tryz.underlying24 rfl sz22) ?_
  refine sq rfl rfl hn rfl (zO rfl rfl (id := 1) rfl Tryz.underlying22 rfl rfl sees0) ?_
  refine sq rfl rfl hn rfl (yI rfl rfl Tryz.underlying22) ?_
  refine sq rfl rfl hn rfl (yD rfl rfl rfl) ?_
  refine sq rfl rfl hn rfl (zD rfl rfl) ?_
  refine stepG [] (zG rfl rfl rfl) rfl (nb hn rfl) (fun hc => trivial) (fun hc => zH rfl rfl Tryz.underlying24 rfl sz3) ?_
  refine stepG [(15, _)] (zG rfl rfl rfl) rfl (nb hn rfl) (fun hc => ⟨⟨_, rfl, hc⟩, trivial⟩) (fun hc => zO rfl rfl (id := 1) rfl Tryz.underlying3 rfl rfl sees0) ?_
  refine stepW (s_call [(16, _)] (fun hc => zBL _ _ _) rfl (zG rfl rfl rfl) rfl (nb hn rfl) (fun hc => ⟨⟨_, rfl, hc⟩, trivial⟩) rfl rfl (.refl _)) fun _ => ?_
  refine stepG [(17, _)] (zG rfl rfl rfl) rfl (nb hn rfl) (fun hc => ⟨⟨_, rfl, hc⟩, trivial⟩) (fun hc => yN rfl rfl) ?_
  refine sq rfl rfl hn rfl (q_or rfl rfl rfl (by intro hB; first | (rw [hB]; rfl) | (rw [hB, hc]; rfl) | simp_all)) ?_
  refine sq rfl rfl hn rfl (zD rfl rfl) ?_
  refine stepG [] (zG rfl rfl rfl) rfl (nb hn rfl) (fun hc => trivial) (fun hc => zH rfl rfl Tryz.underlying24 rfl sz3) ?_
  refine stepG [(21, _)] (zG rfl rfl rfl) rfl (nb hn rfl) (fun hc => ⟨⟨_, rfl, hc⟩, trivial⟩) (fun hc => zO rfl rfl (id := 1) rfl Tryz.underlying3 rfl rfl sees0) ?_
  refine stepW (s_call [(22, _)] (fun hc => zBL _ _ _) rfl (zG rfl rfl rfl) rfl (nb hn rfl) (fun hc => ⟨⟨_, rfl, hc⟩, trivial⟩) rfl rfl (.refl _)) fun _ => ?_
  refine stepG [(23, _)] (zG rfl rfl rfl) rfl (nb hn rfl) (fun hc => ⟨⟨_, rfl, hc⟩, trivial⟩) (fun hc => yN rfl rfl) ?_
  refine sq rfl rfl hn rfl (q_or rfl rfl rfl (by intro hB; first | (rw [hB]; rfl) | (rw [hB, hc]; rfl) | simp_all)) ?_
  refine zF (zA ?_)
  refine zN rfl (fun hb1 => ?_) (fun hb1 => ?_)
  ·
   simp only [List.length_map] at hb1
   refine zC (zB ?_)
   refine sq rfl rfl hn rfl (zE rfl rfl) ?_
   refine zF (zA (zQ (zL ?_)))
   refine z6 (zu (.inl rfl) hl rfl (.tmp rfl)) ?_
   rw [zAi hlim (by unfold argT; rw [hb1]; rfl)]
  ·
   simp only [List.length_map] at hb1
   have harg := argT_all hb1
   refine zP (zA (zC (zC (zB ?_))))
   refine sq rfl rfl hn rfl (zE rfl rfl) ?_
   refine zF (zA (zU ?_))
   refine awp_loop_on (ι := {i : Nat // i ≤ b.stocks.length ∧ FreshTo b.stocks i}) (fun x => (3, true, .d (.int .i64 (x.1 : Nat))) :: anys [26, 27, 28, 29, 30, 33, 34, 35, 36, 37, 4, 38, 39, 40, 41, 42, 43, 44, 45, 46, 47, 5, 48, 49, 50, 53, 54, 55, 56, 57, 58, 59, 60, 61, 51, 52, 31, 32]) (fun x => gones [4]) (fun x => b.stocks.length - x.1) ⟨0, Nat.zero_le _, fun j hj => by omega⟩ ⟨.inl rfl, zK _⟩ (zi _) ?_
   rintro ⟨i, hi, hfr⟩
   dsimp only
   refine zC (zC (zB ?_))
   refine sq rfl rfl hn rfl (zD rfl rfl) ?_
   refine sq rfl rfl hn rfl (zH rfl rfl Tryz.underlying24 rfl sz22) ?_
   refine sq rfl rfl hn rfl (zO rfl rfl (id := 1) rfl Tryz.underlying22 rfl rfl sees0) ?_
   refine sq rfl rfl hn rfl (yI rfl rfl Tryz.underlying22) ?_
   refine sq rfl rfl hn rfl (yF rfl rfl rfl) ?_
   refine zF (zA ?_)
   refine zN rfl (fun hb2 => ?_) (fun hb2 => ?_)
   ·
    have hlt : i < b.stocks.length := by simp at hb2; omega
    obtain ⟨s, hs⟩ := zn hlt
    have hsn := hN s (List.mem_of_getElem? hs)
    refine zP (zA (zC (zU (zC (zB ?_)))))
    refine sq rfl rfl hn rfl (zH rfl rfl Tryz.underlying24 rfl sz22) ?_
    refine sq rfl rfl hn rfl (zO rfl rfl (id := 1) rfl Tryz.underlying22 rfl rfl sees0) ?_
    refine sq rfl rfl hn rfl (zD rfl rfl) ?_
    refine sq rfl rfl hn rfl (q_index (i := i) rfl rfl rfl Tryz.underlying22 sz98 rfl (mget hs)) ?_
    refine sq rfl rfl hn rfl (yM rfl rfl Tryz.underlying98 rfl sz98 rfl rfl seesF0) ?_
    refine stepW (yA 4 rfl rfl rfl (nb hn rfl) zr98 rfl rfl) fun b4 => ?_
    refine stepW (zo rfl rfl rfl rfl rfl rfl (id := 4) rfl sz98 rfl (Nat.le_of_ble_eq_true rfl) rfl trivial) fun _ => ?_
    refine zF (zA (zC (zC (zB ?_))))
    refine sq rfl rfl hn rfl (zH rfl rfl Tryz.underlying98 rfl sz9) ?_
    refine sq rfl rfl hn rfl (zO rfl rfl (id := 4) rfl Tryz.underlying9 rfl rfl sees0) ?_
    refine stepW (s_call [] (fun _ => zC5 _ (by omega)) rfl (zI rfl) rfl (nb hn rfl) (fun _ => trivial) rfl rfl (.refl _)) fun _ => ?_
    refine sq rfl rfl hn rfl (yN rfl rfl) ?_
    refine sq rfl rfl hn rfl (zD rfl rfl) ?_
    refine stepG [] (zG rfl rfl rfl) rfl (nb hn rfl) (fun hc => trivial) (fun hc => zH rfl rfl Tryz.underlying98 rfl sz41) ?_
    refine stepG [(43, _)] (zG rfl rfl rfl) rfl (nb hn rfl) (fun hc => ⟨⟨_, rfl, hc⟩, trivial⟩) (fun hc => zf rfl rfl (id := 4) rfl Tryz.underlying41 rfl sz41 rfl rfl sees0) ?_
    refine stepW (s_call [(44, _)] (fun hc => Span_ok (_, _) _ _) rfl (zG rfl rfl rfl) rfl (nb hn rfl) (fun hc => ⟨⟨_, rfl, hc⟩, trivial⟩) rfl rfl (.refl _)) fun _ => ?_
    refine stepG [(45, _)] (zG rfl rfl rfl) rfl (nb hn rfl) (fun hc => ⟨⟨_, rfl, hc⟩, trivial⟩) (fun hc => yN rfl rfl) ?_
    refine sq rfl rfl hn rfl (q_or rfl rfl rfl (by intro hB; first | (rw [hB]; rfl) | (rw [hB, hc]; rfl) | simp_all)) ?_
    refine zF (zA ?_)
    refine zN rfl (fun hb3 => ?_) (fun hb3 => ?_)
    ·
     have hbad : okS s = false := by (unfold okS; simp at hb3; rcases hb3 with h | h <;> (rw [h]; simp))
     refine zC (zB ?_)
     refine sq rfl rfl hn rfl (zE rfl rfl) ?_
     refine zF (zA (zQ (zL (zX (zL (zL (zX (zL ?_))))))))
     refine z6 (zu (.inl rfl) hl rfl (.tmp rfl)) ?_
     rw [zAi hlim (zEJ (bad_ok hs hbad))]
    ·
     have hok : okS s = true := by unfold okS; simp at hb3 ⊢; exact hb3
     refine zP (zA (zC (zB ?_)))
     refine sq rfl rfl hn rfl (zE rfl rfl) ?_
     refine zF (zA (zU ?_))
     refine awp_loop_on (ι := {k : Nat // k ≤ i ∧ ∀ q, q < k → ∀ o, b.stocks[q]? = some o → eqN s o = false}) (fun x => (5, true, .d (.int .i64 (x.1 : Nat))) :: anys [48, 49, 50, 53, 54, 55, 56, 57, 58, 59, 60, 61, 51, 52]) (fun x => []) (fun x => i - x.1) ⟨0, Nat.zero_le _, fun q hq => by omega⟩ ⟨.inl rfl, zK _⟩ trivial ?_
     rintro ⟨k, hk5, hk6⟩
     dsimp only
     refine zC (zC (zB ?_))
     refine sq rfl rfl hn rfl (zD rfl rfl) ?_
     refine sq rfl rfl hn rfl (zD rfl rfl) ?_
     refine sq rfl rfl hn rfl (yF rfl rfl rfl) ?_
     refine zF (zA ?_)
     refine zN rfl (fun hb4 => ?_) (fun hb4 => ?_)
     ·
      have hklt : k < i := by simpa using hb4
      obtain ⟨o, ho⟩ := zn (show k < b.stocks.length by omega)
      refine zP (zA (zC (zU (zC ?_))))
      refine yK (W := fun b => b ≠ b1 ∧ b ≠ b4) fmo ?_
      refine d1q (i := 0) rfl (by kernel_rfl) (fun _ _ _ _ h => h) rfl rfl hn rfl (zH rfl rfl Tryz.underlying24 rfl sz22) ?_
      refine d1q (i := 1) rfl (by kernel_rfl) (fun _ _ _ _ h => h) rfl rfl hn rfl (zO rfl rfl (id := 1) rfl Tryz.underlying22 rfl rfl (seesA (by simp))) ?_
      refine d1q (i := 2) rfl (by kernel_rfl) (fun _ _ _ _ h => h) rfl rfl hn rfl (zD rfl rfl) ?_
      refine d1q (i := 3) rfl (by kernel_rfl) (fun _ _ _ _ h => h) rfl rfl hn rfl (q_index (i := k) rfl rfl rfl Tryz.underlying22 sz98 rfl (mget ho)) ?_
      refine d1q (i := 4) rfl (by kernel_rfl) (fun _ _ _ _ h => h) rfl rfl hn rfl (zr rfl rfl Tryz.underlying98 rfl sz9 rfl) ?_
      refine d1q (i := 5) rfl (by kernel_rfl) (fun _ _ _ _ h => h) rfl rfl hn rfl (zz rfl rfl Tryz.underlying9 rfl seesFA) ?_
      refine d1q (i := 6) rfl (by kernel_rfl) (fun _ _ _ _ h => h) rfl rfl hn rfl (zH rfl rfl Tryz.underlying98 rfl sz9) ?_
      refine d1q (i := 7) rfl (by kernel_rfl) (fun _ _ _ _ h => h) rfl rfl hn rfl (zO rfl rfl (id := 4) rfl Tryz.underlying9 rfl rfl (seesA (by simp))) ?_
      refine d1q (i := 8) rfl (by kernel_rfl) (fun _ _ _ _ h => h) rfl rfl hn rfl (kJ rfl rfl rfl) ?_
      refine zJ ?_
      refine zh (by kernel_rfl) ?_
      refine zA ?_
      refine zN rfl (fun hb5 => ?_) (fun hb5 => ?_)
      ·
       have htw := bad_twin hs ho hklt hb5
       refine zC (zB ?_)
       refine sq rfl rfl hn rfl (zE rfl rfl) ?_
       refine zF (zA (zQ (zX (zL (zL (zX (zX (zL (zL (zX (zL ?_)))))))))))
       refine z6 (zu (.inl rfl) hl rfl (.tmp rfl)) ?_
       rw [zAi hlim (zEJ htw)]
      ·
       have hne : eqN s o = false := hb5
       refine zP (zS (zA (zB ?_)))
       refine sq rfl rfl hn rfl (zD rfl rfl) ?_
       refine sq rfl rfl hn rfl (zp rfl rfl rfl (r := ((k + 1 : Nat) : Int)) (i64w (by omega) (by omega))) ?_
       refine sq rfl rfl hn rfl (zE rfl rfl) ?_
       refine zF ?_
       exact zR ⟨k + 1, by omega, fun q hq o' ho' => by (by_cases e : q = k; (subst e; rw [ho] at ho'; cases ho'; exact hne); exact hk6 q (by omega) o' ho')⟩ ⟨.inl rfl, zK _⟩ trivial (by simp only; omega) (by repeat (first | exact kr _ | refine kc rfl ?_)) (by repeat (first | exact kr _ | refine kc rfl ?_))
     ·
      have hke : i = k := by simp at hb4; omega
      subst hke
      refine zk (zM (zM (zV (zS (zA (zB ?_))))))
      refine sq rfl rfl hn rfl (zD rfl rfl) ?_
      refine sq rfl rfl hn rfl (zp rfl rfl rfl (r := ((i + 1 : Nat) : Int)) (i64w (by omega) (by omega))) ?_
      refine sq rfl rfl hn rfl (zE rfl rfl) ?_
      refine zF ?_
      exact zR ⟨i + 1, by omega, fun j hj s' hs' => by (by_cases e : j = i; (subst e; rw [hs] at hs'; cases hs'; exact ⟨hok, fun k hk o ho => hk6 k (by omega) o ho⟩); exact hfr j (by omega) s' hs')⟩ ⟨.inl rfl, zK _⟩ (zi _) (by simp only; omega) (by repeat (first | exact kr _ | refine kc rfl ?_)) (by repeat (first | exact kr _ | refine kc rfl ?_))
   ·
    have hie : i = b.stocks.length := by simp at hb2; omega
    subst hie
    have hall := fresh_all hfr
    refine zk (zM (zM (zV (zA (zC (zB ?_))))))
    refine sq rfl rfl hn rfl (zE rfl rfl) ?_
    refine zF (zA (zQ ?_))
    refine z6 (zu (.inl rfl) hl rfl (.tmp rfl)) ?_
    rw [zDz hlim (by rw [harg, hall]; rfl)]
theorem zAc  : PureAt Tryz.prog 61 [] (brdD twoB) := by
 refine PureAt.of_awp Tryz.func61 rfl (by kernel_rfl) (Nat.le_of_ble_eq_true rfl) fun Γ hn hl => ?_
 refine zC (zB ?_)
 refine stepW (yA 0 rfl rfl rfl (nb hn rfl) zr33 rfl rfl) fun b0 => ?_
 refine zF (zA (zC (zB ?_)))
 refine stepW (s_call [] (fun _ => yf _ _) rfl (zI rfl) rfl (nb hn rfl) (fun _ => trivial) rfl rfl (.refl _)) fun _ => ?_
 refine sq rfl rfl hn rfl (ze rfl bt117 rfl rfl rfl rfl rfl) ?_
 refine stepW (s_call [] (fun _ => yf _ _) rfl (zI rfl) rfl (nb hn rfl) (fun _ => trivial) rfl rfl (.refl _)) fun _ => ?_
 refine sq rfl rfl hn rfl (ze rfl bt117 rfl rfl rfl rfl rfl) ?_
 refine stepW (za rfl rfl rfl (nb hn rfl) Tryz.underlying31 sz117 zr117 rfl rfl rfl (show _ = [.d (.str ⟨#[]⟩), .d (.int .i64 0), .d (.int .i64 0), .d (.str ⟨#[]⟩), .d (.int .i64 0), .d (.int .i64 0)] from by kernel_rfl) (by kernel_rfl) rfl rfl rfl rfl rfl) fun _ => ?_
 refine sq rfl rfl hn rfl (ze rfl bt33 rfl rfl rfl rfl rfl) ?_
 refine stepW (zo rfl rfl rfl rfl rfl rfl (id := 0) rfl sz33 rfl (Nat.le_of_ble_eq_true rfl) rfl trivial) fun _ => ?_
 refine zF (zA (zQ ?_))
 exact zu (.inl rfl) hl rfl (.cellA rfl (id := 0) rfl Tryz.underlying33 rfl sz33 rfl rfl)
end Go.Proofs.YtplpcamcnppibaaGreatDoor
namespace Go.Proofs.YtplpcamcnppibaaGreatDoor
open Go.ChangeShapes Go.WideShapes Go.ChangeAt Go.RowKit
set_option linter.all false
set_option maxRecDepth 100000
def I64 (n : Int) : Prop := (Lit.int .i64 n).wf = true
theorem zCV {α : Type} {f : α → List D} {g : List D → α} {Q : α → Prop} : ∀ {es : List (List D)}, (∀ c ∈ es, c = f (g c) ∧ Q (g c)) → ∃ l : List α, es = l.map f ∧ ∀ x ∈ l, Q x
  | [], _ => ⟨[], rfl, fun _ h => by cases h⟩
  | c :: es, h => by
    obtain ⟨l, e, hq⟩ := zCV (es := es) fun x hx => h x (List.mem_cons_of_mem _ hx)
    obtain ⟨h1, h2⟩ := h c List.mem_cons_self
    exact ⟨g c :: l, by rw [List.map_cons, ← h1, ← e], fun x hx => by
      rcases List.mem_cons.1 hx with rfl | hx
      · exact h2
      · exact hq x hx⟩
theorem strD_of (s : ByteArray) : strD s.data.toList = .str s := by simp [strD]
abbrev SI : List D → Prop := fun ds => ∃ n, ds = [.int .i64 n] ∧ (Lit.int .i64 n).wf = true
abbrev SB : List D → Prop := fun ds => ∃ s : ByteArray, ds = [.str s] ∧ s.data.toList.length ≤ 140737488351232
theorem opens_string' {P : Program} {t : TypeId} (ht : P.underlying t = some .string) : Opens P t SB := by
  intro H enc w base spare held fuel cs x h hz
  obtain ⟨s, rfl, hx, hs⟩ := DataW.trod_string ht h
  refine ⟨_, ⟨s, rfl, ?_⟩, ⟨_, _, rfl, rfl, rfl⟩, fun v hv => by simp at hv; subst hv; rfl⟩
  rw [hx] at hz
  simp only [DataW.weights, List.all_cons, List.all_nil, Bool.and_true, decide_eq_true_eq] at hz
  simpa [reachBytes] using hz
theorem oI : Opens Tryz.prog 3 SI := zBV Tryz.underlying3
theorem oS : Opens Tryz.prog 9 SB := opens_string' Tryz.underlying9
theorem oRng : Opens Tryz.prog 41 (Parts [SI, SI]) := zAI (Ss := [SI, SI]) Tryz.underlying41 ⟨rfl, oI, by kernel_rfl, oI, trivial⟩ (by kernel_rfl)
theorem oStk : Opens Tryz.prog 98 (Parts [SB, Parts [SI, SI]]) := zAI (Ss := [SB, Parts [SI, SI]]) Tryz.underlying98 ⟨rfl, oS, by kernel_rfl, oRng, trivial⟩ (by kernel_rfl)
abbrev SSl (sz e : Nat) (S : List D → Prop) : List D → Prop := fun ds => ∃ es : List (List D), ds = [.slice sz es] ∧ es.length * Tryz.prog.bytesOf e ≤ reachBytes ∧ ∀ c ∈ es, S c
theorem oStks : Opens Tryz.prog 22 (SSl 3 98 (Parts [SB, Parts [SI, SI]])) := zBs (sz := 3) Tryz.underlying22 (by kernel_rfl) (by omega) (fun ds h => by
  obtain ⟨_, _, rfl, ⟨_, rfl, _⟩, _, _, rfl, ⟨_, _, rfl, ⟨_, rfl, _⟩, _, _, rfl, ⟨_, rfl, _⟩, rfl⟩, rfl⟩ := h
  rfl) oStk
def stkOf (ds : List D) : Stk := match ds with
  | [.str s, .int _ a, .int _ b] => ⟨s.data.toList, a, b⟩
  | _ => ⟨[], 0, 0⟩
def intOf1 (ds : List D) : Int := match ds with
  | [.int _ a] => a
  | _ => 0
def StkWf (s : Stk) : Prop := s.name.length ≤ 140737488351232 ∧ I64 s.lo ∧ I64 s.hi
def BrdWf (b : Brd) : Prop := NamesOK b ∧ (∀ s ∈ b.stocks, StkWf s) ∧ I64 b.jump ∧ I64 b.small
def SBrd (d : D) : Prop := ∃ b : Brd, d = brdD b ∧ BrdWf b
theorem pBrd : OpensP Tryz.prog 24 SBrd := by
  intro H enc w r b0 base spare held v d p hv h hz
  obtain ⟨x, ⟨ds, rfl, hx⟩, hr⟩ := opensP_struct Tryz.underlying24 (zAI (Ss := [SSl 3 98 (Parts [SB, Parts [SI, SI]]), SI, SI]) Tryz.underlying24 ⟨rfl, oStks, by kernel_rfl, oI, by kernel_rfl, oI, trivial⟩ (by kernel_rfl)) enc w r b0 base spare held v d p hv h hz
  refine ⟨_, ?_, hr⟩
  obtain ⟨_, _, rfl, ⟨st, rfl, z1, hst⟩, _, _, rfl, ⟨j, rfl, hj⟩, _, _, rfl, ⟨sm, rfl, hsm⟩, rfl⟩ := hx
  obtain ⟨l, rfl, q1⟩ := zCV (f := stkE) (g := stkOf) (Q := StkWf) fun c hc => by
    obtain ⟨_, _, rfl, ⟨s, rfl, a⟩, _, _, rfl, ⟨_, _, rfl, ⟨_, rfl, b⟩, _, _, rfl, ⟨_, rfl, c⟩, rfl⟩, rfl⟩ := hst c hc
    refine ⟨?_, a, b, c⟩
    show [D.str s, _, _] = [strD s.data.toList, _, _]
    rw [strD_of]
    rfl
  exact ⟨⟨l, j, sm⟩, rfl, fun s hs => Nat.le_trans (q1 s hs).1 (by omega), q1, hj, hsm⟩
end Go.Proofs.YtplpcamcnppibaaGreatDoor
namespace Go.Proofs.YtplpcamcnppibaaGreatDoor
open Go.ChangeShapes Go.WideShapes Go.ChangeAt Go.RowKit
set_option linter.all false
set_option maxRecDepth 100000
def u16E (n : Int) : List D := [.int .u16 n]
def SU16s (d : D) : Prop := ∃ l : List Int, d = .slice 1 (l.map u16E) ∧ l.length * Tryz.prog.bytesOf 168 ≤ reachBytes ∧ ∀ n ∈ l, 0 ≤ n ∧ n ≤ 65535
def SU8 (d : D) : Prop := ∃ n : Int, d = .int .u8 n ∧ 0 ≤ n ∧ n ≤ 255
theorem oU16 : Opens Tryz.prog 168 (fun ds => ∃ n, ds = [.int .u16 n] ∧ (Lit.int .u16 n).wf = true) := zBV Tryz.underlying168
theorem oU16s : Opens Tryz.prog 83 (SSl 1 168 (fun ds => ∃ n, ds = [.int .u16 n] ∧ (Lit.int .u16 n).wf = true)) := zBs (sz := 1) Tryz.underlying83 (by kernel_rfl) (by omega) (fun ds h => by
  obtain ⟨_, rfl, _⟩ := h
  rfl) oU16
theorem pU16s : OpensP Tryz.prog 83 SU16s := zCS (fun hv => by obtain ⟨a, l, c, rfl⟩ := okWide_slice Tryz.underlying83 hv; rfl) oU16s fun _ ⟨es, e, z, h⟩ => by
  obtain ⟨l, rfl, q⟩ := zCV (f := u16E) (g := intOf1) (Q := fun n => 0 ≤ n ∧ n ≤ 65535) fun c hc => by
    obtain ⟨n, rfl, h⟩ := h c hc
    exact ⟨rfl, by simpa [Lit.wf, IntKind.min, IntKind.max, IntKind.signed, IntKind.bits, intOf1] using h⟩
  rw [List.length_map] at z
  exact ⟨_, e, l, rfl, z, q⟩
theorem pU8 : OpensP Tryz.prog 5 SU8 := zCS (fun hv => by obtain ⟨n, rfl⟩ := okWide_int Tryz.underlying5 hv; rfl) (zBV Tryz.underlying5) fun _ ⟨n, e, hw⟩ => ⟨_, e, n, rfl, by simpa [Lit.wf, IntKind.min, IntKind.max, IntKind.signed, IntKind.bits] using hw⟩
end Go.Proofs.YtplpcamcnppibaaGreatDoor
namespace Go.Proofs.YtplpcamcnppibaaGreatDoor
open Go.RowKit
set_option maxRecDepth 20000
set_option linter.all false
theorem zv {n : Nat} {ds : List D} {zs : List TV} (hz : zs.length = n) (hd : ds.length = n) : fillTV (fun i => some (i * n, n)) zs [(0, .d (.agg ds))] = some (ds.map .d) := by
  have h1 : Nat.beq n n = true := Nat.beq_refl n
  have h2 : Nat.ble n n = true := by simp
  simp only [fillTV, TV.cells, List.length_map, hd, hz, TV.flat, Nat.zero_mul, Nat.zero_add, h1, h2]
  rw [List.drop_of_length_le (by omega)]
  simp
theorem yC : ∀ (l : List D), allD (l.map .d) = some l
  | [] => rfl
  | x :: l => by simp only [List.map_cons, allD, yC l]
theorem z8 {n : Nat} {ds : List D} (hd : ds.length = n) : Nat.beq ds.length (1 * n) = true := by rw [hd, Nat.one_mul]; exact Nat.beq_refl n
theorem zq {n : Nat} {ds : List D} (hd : ds.length = n) : chunk n 1 ds = [ds] := by
  simp only [chunk]
  rw [List.take_of_length_le (by omega)]
theorem modN {a b : Nat} (hb : 0 < b) : ((a : Int).tmod (b : Int)) = ((a % b : Nat) : Int) := by
  rw [Int.tmod_eq_emod_of_nonneg (by omega)]; rfl
theorem quoN {a b : Nat} (ha : a ≤ 9223372036854775807) (hb : 0 < b) : IntKind.i64.wrap ((a : Int).tdiv (b : Int)) = ((a / b : Nat) : Int) := by
  rw [Int.tdiv_eq_ediv_of_nonneg (by omega)]
  have : ((a : Int) / (b : Int)) = ((a / b : Nat) : Int) := by simp
  rw [this]
  have h := Nat.div_le_self a b
  generalize a / b = c at *
  exact i64w (by omega) rfl
def intsB : List Int → List Int → Bool
  | [], [] => true
  | a :: p, b :: q => bif a != b then false else intsB p q
  | _, _ => false
theorem zAe : ∀ {a b : List Int}, intsB a b = true ↔ a = b
  | [], [] => by simp [intsB]
  | [], _ :: _ => by simp [intsB]
  | _ :: _, [] => by simp [intsB]
  | a :: p, b :: q => by
    unfold intsB
    by_cases h : a = b
    · subst h; simp [zAe]
    · simp [h]
theorem addK {l : List Stk} {x : Stk} : l.map stkE ++ [stkE x] = (l ++ [x]).map stkE := by simp
theorem zBl {α : Type} {l : List α} {i : Nat} {x : α} (h : l[i]? = some x) : l.take i ++ [x] = l.take (i + 1) := by rw [List.take_add_one, h]; rfl
theorem thin_all {l : List Stk} {i : Nat} (h8 : i = l.length ∨ 8 ≤ i) (ha : ∀ j, j < i → ∀ s, l[j]? = some s → (decide ((s.name.length : Int) ≤ 9)) = true) : (l.take 8).all (fun s => decide ((s.name.length : Int) ≤ 9)) = true := by
  rw [List.all_eq_true]
  intro s hs
  obtain ⟨j, hj⟩ := List.getElem?_of_mem hs
  rw [List.getElem?_take] at hj
  split at hj
  · have := (List.getElem?_eq_some_iff.1 hj).1
    exact ha j (by omega) s hj
  · cases hj
theorem zE6 (a b : List Int) : PureAt Tryz.prog 31 [ints a, ints b] (.bool (intsB a b)) := by
 refine PureAt.of_awp' Tryz.func31 rfl (by kernel_rfl) rfl fun hlen Γ hn hl => ?_
 have hl1 := hlen.1; have hl2 := hlen.2.1
 simp only [List.length_map] at hl1 hl2
 refine zC (zB ?_)
 refine sq rfl rfl hn rfl (zE rfl rfl) ?_
 refine zF (zA (zC (zC (zB ?_))))
 refine sq rfl rfl hn rfl (zD rfl rfl) ?_
 refine sq rfl rfl hn rfl (yI rfl rfl Tryz.underlying57) ?_
 refine sq rfl rfl hn rfl (zD rfl rfl) ?_
 refine sq rfl rfl hn rfl (yI rfl rfl Tryz.underlying57) ?_
 refine sq rfl rfl hn rfl (yb rfl rfl rfl) ?_
 refine zF (zA ?_)
 refine zN rfl (fun hb0 => ?_) (fun hb0 => ?_)
 ·
  have hne : a ≠ b := fun e => by subst e; simp at hb0
  refine zC (zB ?_)
  refine sq rfl rfl hn rfl (zE rfl rfl) ?_
  refine zF (zA (zQ (zL ?_)))
  refine z6 (zu (.inl rfl) hl rfl (.tmp rfl)) ?_
  rw [show intsB a b = false from by rw [Bool.eq_false_iff]; exact fun q => hne (zAe.1 q)]
 ·
  have hle : a.length = b.length := by simp at hb0; omega
  refine zP (zA (zC (zC (zB ?_))))
  refine sq rfl rfl hn rfl (zE rfl rfl) ?_
  refine zF (zA (zU ?_))
  refine awp_loop_on (ι := {i : Nat // i ≤ a.length ∧ ∀ j, j < i → a[j]? = b[j]?}) (fun x => (5, true, .d (.int .i64 (x.1 : Nat))) :: anys [11, 12, 13, 14, 17, 18, 19, 20, 21, 22, 23, 24, 25, 15, 16]) (fun x => []) (fun x => a.length - x.1) ⟨0, Nat.zero_le _, fun j hj => by omega⟩ ⟨.inl rfl, zK _⟩ trivial ?_
  rintro ⟨i, hi, hall⟩
  dsimp only
  refine zC (zC (zB ?_))
  refine sq rfl rfl hn rfl (zD rfl rfl) ?_
  refine sq rfl rfl hn rfl (zD rfl rfl) ?_
  refine sq rfl rfl hn rfl (yI rfl rfl Tryz.underlying57) ?_
  refine sq rfl rfl hn rfl (yF rfl rfl rfl) ?_
  refine zF (zA ?_)
  refine zN rfl (fun hb1 => ?_) (fun hb1 => ?_)
  ·
   have hlt : i < a.length := by simp at hb1; omega
   obtain ⟨x, hx⟩ := zn hlt
   obtain ⟨y, hy⟩ := zn (show i < b.length by omega)
   refine zP (zA (zC (zU (zC ?_))))
   refine yK (W := fun b => True) fmo ?_
   refine d1q (i := 0) rfl (by kernel_rfl) (fun _ _ _ _ h => h) rfl rfl hn rfl (zD rfl rfl) ?_
   refine d1q (i := 1) rfl (by kernel_rfl) (fun _ _ _ _ h => h) rfl rfl hn rfl (zD rfl rfl) ?_
   refine d1q (i := 2) rfl (by kernel_rfl) (fun _ _ _ _ h => h) rfl rfl hn rfl (q_index (i := i) rfl rfl rfl Tryz.underlying57 sz3 rfl (mget hx)) ?_
   refine d1q (i := 3) rfl (by kernel_rfl) (fun _ _ _ _ h => h) rfl rfl hn rfl (zz rfl rfl Tryz.underlying3 rfl seesFA) ?_
   refine d1q (i := 4) rfl (by kernel_rfl) (fun _ _ _ _ h => h) rfl rfl hn rfl (zD rfl rfl) ?_
   refine d1q (i := 5) rfl (by kernel_rfl) (fun _ _ _ _ h => h) rfl rfl hn rfl (zD rfl rfl) ?_
   refine d1q (i := 6) rfl (by kernel_rfl) (fun _ _ _ _ h => h) rfl rfl hn rfl (q_index (i := i) rfl rfl rfl Tryz.underlying57 sz3 rfl (mget hy)) ?_
   refine d1q (i := 7) rfl (by kernel_rfl) (fun _ _ _ _ h => h) rfl rfl hn rfl (zz rfl rfl Tryz.underlying3 rfl seesFA) ?_
   refine d1q (i := 8) rfl (by kernel_rfl) (fun _ _ _ _ h => h) rfl rfl hn rfl (yb rfl rfl rfl) ?_
   refine zJ ?_
   refine zh (by kernel_rfl) ?_
   refine zA ?_
   refine zN rfl (fun hb2 => ?_) (fun hb2 => ?_)
   ·
    have hne : a ≠ b := fun e => by (subst e; rw [hx] at hy; cases hy; simp at hb2)
    refine zC (zB ?_)
    refine sq rfl rfl hn rfl (zE rfl rfl) ?_
    refine zF (zA (zQ (zX (zL (zL (zX (zL ?_)))))))
    refine z6 (zu (.inl rfl) hl rfl (.tmp rfl)) ?_
    rw [show intsB a b = false from by rw [Bool.eq_false_iff]; exact fun q => hne (zAe.1 q)]
   ·
    have hxy : x = y := by simpa using hb2
    refine zP (zS (zA (zB ?_)))
    refine sq rfl rfl hn rfl (zD rfl rfl) ?_
    refine sq rfl rfl hn rfl (zp rfl rfl rfl (r := ((i + 1 : Nat) : Int)) (i64w (by omega) (by omega))) ?_
    refine sq rfl rfl hn rfl (zE rfl rfl) ?_
    refine zF ?_
    exact zR ⟨i + 1, by omega, fun j hj => by (by_cases e : j = i; (subst e; rw [hx, hy, hxy]); exact hall j (by omega))⟩ ⟨.inl rfl, zK _⟩ trivial (by simp only; omega) (by repeat (first | exact kr _ | refine kc rfl ?_)) (by repeat (first | exact kr _ | refine kc rfl ?_))
  ·
   have hie : i = a.length := by simp at hb1; omega
   refine zk (zM (zM (zV (zA (zC (zB ?_))))))
   refine sq rfl rfl hn rfl (zE rfl rfl) ?_
   refine zF (zA (zQ ?_))
   refine z6 (zu (.inl rfl) hl rfl (.tmp rfl)) ?_
   rw [show intsB a b = true from zAe.2 (List.ext_getElem? fun j => by (by_cases e : j < i; exact hall j e; rw [List.getElem?_eq_none (by omega), List.getElem?_eq_none (by omega)]))]
theorem Thin_ok (b : Brd) (s : List UInt8) (hN : NamesOK b) : PureAt Tryz.prog 16 [brdD b, strD s] (.bool (thinT b s.length)) := by
 refine PureAt.of_awp' Tryz.func16 rfl (by kernel_rfl) rfl fun hlen Γ hn hl => ?_
 have hl5 := hlen.1 3 (b.stocks.map stkE) (by simp)
 simp only [List.length_map] at hl5
 refine zC (zB ?_)
 refine stepW (yE 2 rfl rfl rfl (nb hn rfl) rfl rfl) fun b2 => ?_
 refine sq rfl rfl hn rfl (zE rfl rfl) ?_
 refine zF (zA (zC (zC (zB ?_))))
 refine sq rfl rfl hn rfl (zE rfl rfl) ?_
 refine zF (zA (zU ?_))
 refine awp_loop_on (ι := {i : Nat // i ≤ b.stocks.length ∧ i ≤ 8 ∧ ∀ j, j < i → ∀ s, b.stocks[j]? = some s → (decide ((s.name.length : Int) ≤ 9)) = true}) (fun x => (5, true, .d (.int .i64 (x.1 : Nat))) :: anys [6, 7, 8, 9, 10, 11, 12, 13, 14, 17, 18, 19, 20, 21, 22, 23, 24, 15, 16]) (fun x => []) (fun x => b.stocks.length - x.1) ⟨0, Nat.zero_le _, Nat.zero_le _, fun j hj => by omega⟩ ⟨.inl rfl, zK _⟩ trivial ?_
 rintro ⟨i, hi, hi8, hall⟩
 dsimp only
 refine zC (zC (zB ?_))
 refine sq rfl rfl hn rfl (zD rfl rfl) ?_
 refine sq rfl rfl hn rfl (zH rfl rfl Tryz.underlying24 rfl sz22) ?_
 refine sq rfl rfl hn rfl (zO rfl rfl (id := 2) rfl Tryz.underlying22 rfl rfl sees0) ?_
 refine sq rfl rfl hn rfl (yI rfl rfl Tryz.underlying22) ?_
 refine sq rfl rfl hn rfl (yF rfl rfl rfl) ?_
 refine sq rfl rfl hn rfl (zD rfl rfl) ?_
 refine stepG [] (zG rfl rfl rfl) rfl (nb hn rfl) (fun hc => trivial) (fun hc => zD rfl rfl) ?_
 refine stepG [(12, _)] (zG rfl rfl rfl) rfl (nb hn rfl) (fun hc => ⟨⟨_, rfl, hc⟩, trivial⟩) (fun hc => yF rfl rfl rfl) ?_
 refine sq rfl rfl hn rfl (zx rfl rfl rfl (by intro hB; first | (rw [hB]; rfl) | (rw [hB, hc]; rfl) | simp_all)) ?_
 refine zF (zA ?_)
 refine zN rfl (fun hb0 => ?_) (fun hb0 => ?_)
 ·
  have hlt : i < b.stocks.length ∧ i < 8 := by simp at hb0; omega
  obtain ⟨x, hx⟩ := zn hlt.1
  refine zP (zA (zC (zU (zC (zB ?_)))))
  refine sq rfl rfl hn rfl (zH rfl rfl Tryz.underlying24 rfl sz22) ?_
  refine sq rfl rfl hn rfl (zO rfl rfl (id := 2) rfl Tryz.underlying22 rfl rfl sees0) ?_
  refine sq rfl rfl hn rfl (zD rfl rfl) ?_
  refine sq rfl rfl hn rfl (q_index (i := i) rfl rfl rfl Tryz.underlying22 sz98 rfl (mget hx)) ?_
  refine sq rfl rfl hn rfl (zr rfl rfl Tryz.underlying98 rfl sz9 rfl) ?_
  refine sq rfl rfl hn rfl (zz rfl rfl Tryz.underlying9 rfl seesF0) ?_
  refine sq rfl rfl hn rfl (yY rfl rfl Tryz.underlying9) ?_
  refine sq rfl rfl hn rfl (yh rfl rfl rfl) ?_
  refine zF (zA ?_)
  refine zN rfl (fun hb1 => ?_) (fun hb1 => ?_)
  ·
   rw [zm] at hb1
   have hbad : (b.stocks.take 8).all (fun s => decide ((s.name.length : Int) ≤ 9)) = false := List.all_eq_false.2 ⟨x, List.mem_of_getElem? (i := i) (by rw [List.getElem?_take, if_pos (by omega)]; exact hx), by simp at hb1 ⊢; omega⟩
   refine zC (zB ?_)
   refine sq rfl rfl hn rfl (zE rfl rfl) ?_
   refine zF (zA (zQ (zX (zL (zL (zX (zL ?_)))))))
   refine z6 (zu (.inl rfl) hl rfl (.tmp rfl)) ?_
   rw [show thinT b s.length = false from by unfold thinT; rw [hbad]; rfl]
  ·
   rw [zm] at hb1
   have hok : (decide ((x.name.length : Int) ≤ 9)) = true := by simp at hb1 ⊢; omega
   refine zP (zS (zA (zB ?_)))
   refine sq rfl rfl hn rfl (zD rfl rfl) ?_
   refine sq rfl rfl hn rfl (zp rfl rfl rfl (r := ((i + 1 : Nat) : Int)) (i64w (by omega) (by omega))) ?_
   refine sq rfl rfl hn rfl (zE rfl rfl) ?_
   refine zF ?_
   exact zR ⟨i + 1, by omega, by omega, fun j hj s' hs' => by (by_cases e : j = i; (subst e; rw [hx] at hs'; cases hs'; exact hok); exact hall j (by omega) s' hs')⟩ ⟨.inl rfl, zK _⟩ trivial (by simp only; omega) (by repeat (first | exact kr _ | refine kc rfl ?_)) (by repeat (first | exact kr _ | refine kc rfl ?_))
 ·
  have hie : i = b.stocks.length ∨ 8 ≤ i := by simp at hb0; omega
  have hth := thin_all hie hall
  refine zk (zM (zM (zV (zA (zC (zB ?_))))))
  refine sq rfl rfl hn rfl (zH rfl rfl Tryz.underlying24 rfl sz22) ?_
  refine sq rfl rfl hn rfl (zO rfl rfl (id := 2) rfl Tryz.underlying22 rfl rfl sees0) ?_
  refine sq rfl rfl hn rfl (yI rfl rfl Tryz.underlying22) ?_
  refine sq rfl rfl hn rfl (yd rfl rfl rfl) ?_
  refine sq rfl rfl hn rfl (zD rfl rfl) ?_
  refine stepG [] (zG rfl rfl rfl) rfl (nb hn rfl) (fun hc => trivial) (fun hc => zD rfl rfl) ?_
  refine stepG [(30, _)] (zG rfl rfl rfl) rfl (nb hn rfl) (fun hc => ⟨⟨_, rfl, hc⟩, trivial⟩) (fun hc => yY rfl rfl Tryz.underlying9) ?_
  refine stepG [(31, _)] (zG rfl rfl rfl) rfl (nb hn rfl) (fun hc => ⟨⟨_, rfl, hc⟩, trivial⟩) (fun hc => yd rfl rfl rfl) ?_
  refine sq rfl rfl hn rfl (zx rfl rfl rfl (by intro hB; first | (rw [hB]; rfl) | (rw [hB, hc]; rfl) | simp_all)) ?_
  refine sq rfl rfl hn rfl (zE rfl rfl) ?_
  refine zF (zA (zQ ?_))
  refine z6 (zu (.inl rfl) hl rfl (.tmp rfl)) ?_
  rw [zm]; unfold thinT; rw [hth]; simp
end Go.Proofs.YtplpcamcnppibaaGreatDoor
namespace Go.Proofs.YtplpcamcnppibaaGreatDoor
open Go.RowKit
set_option maxRecDepth 20000
set_option linter.all false
theorem sz91 : Sz Tryz.prog 91 4 := (by kernel_rfl : (Tryz.prog.info? 91).map (·.size) = some 4)
theorem sz115 : Sz Tryz.prog 115 4 := (by kernel_rfl : (Tryz.prog.info? 115).map (·.size) = some 4)
theorem zr115 : (Tryz.prog.info? 115).map (·.zero) = some (some (.agg #[(.int .i64 0), (.int .i64 0), (.int .i64 0), (.int .i64 0)])) := by kernel_rfl
theorem bt115 : BT Tryz.prog 115 (.agg #[(.int .i64 0), (.int .i64 0), (.int .i64 0), (.int .i64 0)]) (fun i => ([(0, 1), (1, 1), (2, 1), (3, 1)] : List (Nat × Nat))[i]?) := yQ Tryz.underlying115 zr115 (by kernel_rfl)
theorem elt31 : ElT Tryz.prog 31 117 3 32 := zAy Tryz.underlying31 (z := (.agg #[(.string ⟨#[]⟩), (.int .i64 0), (.int .i64 0)])) (by kernel_rfl) rfl (by decide)
theorem Board_ok (b : Brd) (h5 : b.stocks.length ≤ 1000) : PureAt Tryz.prog 19 [brdD b] (brdD b) := by
 refine PureAt.of_awp Tryz.func19 rfl (by kernel_rfl) (Nat.le_of_ble_eq_true rfl) fun Γ hn hl => ?_
 refine zC (zB ?_)
 refine stepW (yE 1 rfl rfl rfl (nb hn rfl) rfl rfl) fun b1 => ?_
 refine stepW (yA 2 rfl rfl rfl (nb hn rfl) zr33 rfl rfl) fun b2 => ?_
 refine zF (zA (zC (zB ?_)))
 refine sq rfl rfl hn rfl (zH rfl rfl Tryz.underlying24 rfl sz3) ?_
 refine sq rfl rfl hn rfl (zO rfl rfl (id := 1) rfl Tryz.underlying3 rfl rfl sees0) ?_
 refine sq rfl rfl hn rfl (zH rfl rfl Tryz.underlying24 rfl sz3) ?_
 refine sq rfl rfl hn rfl (zO rfl rfl (id := 1) rfl Tryz.underlying3 rfl rfl sees0) ?_
 refine sq rfl rfl hn rfl (ze rfl bt33 rfl rfl rfl rfl rfl) ?_
 refine stepW (yA 3 rfl rfl rfl (nb hn rfl) zr33 rfl rfl) fun b3 => ?_
 refine stepW (zo rfl rfl rfl rfl rfl rfl (id := 3) rfl sz33 rfl (Nat.le_of_ble_eq_true rfl) rfl trivial) fun _ => ?_
 refine zF (zA (zC (zC ?_)))
 refine y7 (gh_nilcell (id := 3) (k := 0) 1030 117 3 rfl rfl) ?_
 refine zB ?_
 refine sq rfl rfl hn rfl (zE rfl rfl) ?_
 refine zF (zA (zU ?_))
 refine awp_loop_on (ι := {x : Nat × Value // x.1 ≤ b.stocks.length}) (fun x => (4, true, .d (.int .i64 (x.1.1 : Nat))) :: anys [10, 11, 12, 13, 14, 17, 18, 19, 20, 21, 22, 23, 24, 25, 26, 27, 28, 29, 30, 31, 32, 33, 34, 35, 15, 16]) (fun x => [(3, .box b3 33 [.val x.1.2, .d (.int .i64 b.jump), .d (.int .i64 b.small)]), (1030, .row x.1.2 117 3 ((b.stocks.take x.1.1).map stkE))]) (fun x => b.stocks.length - x.1.1) ⟨(0, _), Nat.zero_le _⟩ ⟨.inl rfl, zK _⟩ ⟨.inl rfl, .inl rfl, trivial⟩ ?_
 rintro ⟨⟨i, vS⟩, hi⟩
 dsimp only
 refine zC (zC (zB ?_))
 refine sq rfl rfl hn rfl (zD rfl rfl) ?_
 refine sq rfl rfl hn rfl (zH rfl rfl Tryz.underlying24 rfl sz22) ?_
 refine sq rfl rfl hn rfl (zO rfl rfl (id := 1) rfl Tryz.underlying22 rfl rfl sees0) ?_
 refine sq rfl rfl hn rfl (yI rfl rfl Tryz.underlying22) ?_
 refine sq rfl rfl hn rfl (yF rfl rfl rfl) ?_
 refine zF (zA ?_)
 refine zN rfl (fun hb0 => ?_) (fun hb0 => ?_)
 ·
  have hlt : i < b.stocks.length := by simp at hb0; omega
  obtain ⟨s, hs⟩ := zn hlt
  refine zP (zA (zC (zU ?_)))
  refine z7 (e := .normal) (ι := Value) (fun x => anys [17, 18, 19, 20, 21, 22, 23, 24, 25, 26, 27, 28, 29, 30, 31, 32, 33, 34, 35]) (fun x => [(3, .box b3 33 [.val x, .d (.int .i64 b.jump), .d (.int .i64 b.small)]), (1030, .row x 117 3 ((b.stocks.take (i + 1)).map stkE))]) (fun hJ1 => ?_) ?_
  ·
   refine yK (W := fun b => b ≠ b1) fmo ?_
   refine d1q (i := 0) rfl (by kernel_rfl) (fun _ _ _ _ h => h) rfl rfl hn rfl (zH rfl rfl Tryz.underlying33 rfl sz31) ?_
   refine d1q (i := 2) rfl (by kernel_rfl) (fun _ _ _ _ h => h) rfl rfl hn rfl (zH rfl rfl Tryz.underlying24 rfl sz22) ?_
   refine d1q (i := 3) rfl (by kernel_rfl) (fun _ _ _ _ h => h) rfl rfl hn rfl (zO rfl rfl (id := 1) rfl Tryz.underlying22 rfl rfl (seesA (by simp))) ?_
   refine d1q (i := 4) rfl (by kernel_rfl) (fun _ _ _ _ h => h) rfl rfl hn rfl (zD rfl rfl) ?_
   refine d1q (i := 5) rfl (by kernel_rfl) (fun _ _ _ _ h => h) rfl rfl hn rfl (q_index (i := i) rfl rfl rfl Tryz.underlying22 sz98 rfl (mget hs)) ?_
   refine d1q (i := 6) rfl (by kernel_rfl) (fun _ _ _ _ h => h) rfl rfl hn rfl (zr rfl rfl Tryz.underlying98 rfl sz9 rfl) ?_
   refine d1q (i := 7) rfl (by kernel_rfl) (fun _ _ _ _ h => h) rfl rfl hn rfl (zz rfl rfl Tryz.underlying9 rfl seesFA) ?_
   refine d1q (i := 8) rfl (by kernel_rfl) (fun _ _ _ _ h => h) rfl rfl hn rfl (zH rfl rfl Tryz.underlying24 rfl sz22) ?_
   refine d1q (i := 9) rfl (by kernel_rfl) (fun _ _ _ _ h => h) rfl rfl hn rfl (zO rfl rfl (id := 1) rfl Tryz.underlying22 rfl rfl (seesA (by simp))) ?_
   refine d1q (i := 10) rfl (by kernel_rfl) (fun _ _ _ _ h => h) rfl rfl hn rfl (zD rfl rfl) ?_
   refine d1q (i := 11) rfl (by kernel_rfl) (fun _ _ _ _ h => h) rfl rfl hn rfl (q_index (i := i) rfl rfl rfl Tryz.underlying22 sz98 rfl (mget hs)) ?_
   refine d1q (i := 12) rfl (by kernel_rfl) (fun _ _ _ _ h => h) rfl rfl hn rfl (zr rfl rfl Tryz.underlying98 rfl sz41 rfl) ?_
   refine d1q (i := 13) rfl (by kernel_rfl) (fun _ _ _ _ h => h) rfl rfl hn rfl (yM rfl rfl Tryz.underlying41 rfl sz41 rfl rfl seesFA) ?_
   refine zJ ?_
   refine yJ 1 [14] (by kernel_rfl) ⟨?_, ?_, trivial⟩
   ·
    refine br rfl (zZ _ [] (zI rfl) rfl (nb hn rfl) (fun _ => trivial) (fun _ => zO rfl rfl (id := 3) rfl Tryz.underlying31 rfl rfl sees0)) fun _ => ?_
    refine d2_of_d1 (zJ ?_)
    refine zT (i := 14) (by kernel_rfl) rfl (s_call [] (fun _ => zF5 (s.lo, s.hi)) rfl (zI rfl) rfl (nb hn rfl) (fun _ => trivial) rfl rfl (.refl _)) fun _ => ?_
    refine d2_of_d1 ?_
    refine d1q (i := 15) rfl (by kernel_rfl) (fun _ _ _ _ h => h) rfl rfl hn rfl (ze rfl bt117 rfl rfl rfl rfl rfl) ?_
    refine zJ ?_
    refine zT (i := 16) (by kernel_rfl) rfl (za rfl rfl rfl (nb hn rfl) Tryz.underlying31 sz117 zr117 rfl rfl rfl (show _ = [.d (.str ⟨#[]⟩), .d (.int .i64 0), .d (.int .i64 0)] from by kernel_rfl) (by kernel_rfl) rfl (zv (by kernel_rfl) rfl) (yC _) (z8 rfl) (zq rfl)) fun _ => ?_
    refine d2_of_d1 (zJ ?_)
    refine zW (i := 1030) (j := 1) rfl rfl rfl (fun hne1030_1 => ?_)
    refine zT (i := 17) (by kernel_rfl) rfl (s_append (id := 1030) rfl rfl rfl (nb hn rfl) elt31 trivial rfl rfl rfl (by simp [chunk]; omega) (by simp [chunk]; omega) (fun b hb => (fun e => hne1030_1 _ hb (congrArg some e.symm)))) fun v34 => ?_
    refine d2_of_d1 ?_
    refine d1q (i := 18) rfl (by kernel_rfl) (fun _ _ _ _ h => h) rfl rfl hn rfl (zH rfl rfl Tryz.underlying33 rfl sz31) ?_
    refine zJ ?_
    refine zW (i := 3) (j := 1) rfl rfl rfl (fun hne3_1 => ?_)
    refine zT (i := 19) (by kernel_rfl) rfl (s_storeRow rfl rfl rfl rfl rfl (rid := 1030) rfl (id := 3) rfl sz31 (Nat.le_of_ble_eq_true rfl) rfl (fun e => hne3_1 _ rfl (congrArg some e.symm))) fun _ => ?_
    refine d2_of_d1 (zJ ?_)
    refine zh (by kernel_rfl) ?_
    exact aend_join_on hJ1 v34 (zK _) ⟨.inl rfl, .inl (congrArg (fun z => some (Res.row v34 117 3 z)) (addK.trans (by rw [zBl hs]))), trivial⟩ (by repeat (first | exact kr _ | refine kc rfl ?_)) (by repeat (first | exact kr _ | refine kc rfl ?_))
   ·
    refine br rfl (s_call [] (fun _ => zF5 (s.lo, s.hi)) rfl (zI rfl) rfl (nb hn rfl) (fun _ => trivial) rfl rfl (.refl _)) fun _ => ?_
    refine d2_of_d1 ?_
    refine d1q (i := 15) rfl (by kernel_rfl) (fun _ _ _ _ h => h) rfl rfl hn rfl (ze rfl bt117 rfl rfl rfl rfl rfl) ?_
    refine zJ ?_
    refine yJ 1 [16] (by kernel_rfl) ⟨?_, ?_, trivial⟩
    ·
     refine br rfl (zZ _ [] (zI rfl) rfl (nb hn rfl) (fun _ => trivial) (fun _ => zO rfl rfl (id := 3) rfl Tryz.underlying31 rfl rfl sees0)) fun _ => ?_
     refine d2_of_d1 (zJ ?_)
     refine zT (i := 16) (by kernel_rfl) rfl (za rfl rfl rfl (nb hn rfl) Tryz.underlying31 sz117 zr117 rfl rfl rfl (show _ = [.d (.str ⟨#[]⟩), .d (.int .i64 0), .d (.int .i64 0)] from by kernel_rfl) (by kernel_rfl) rfl (zv (by kernel_rfl) rfl) (yC _) (z8 rfl) (zq rfl)) fun _ => ?_
     refine d2_of_d1 (zJ ?_)
     refine zW (i := 1030) (j := 1) rfl rfl rfl (fun hne1030_1 => ?_)
     refine zT (i := 17) (by kernel_rfl) rfl (s_append (id := 1030) rfl rfl rfl (nb hn rfl) elt31 trivial rfl rfl rfl (by simp [chunk]; omega) (by simp [chunk]; omega) (fun b hb => (fun e => hne1030_1 _ hb (congrArg some e.symm)))) fun v34 => ?_
     refine d2_of_d1 ?_
     refine d1q (i := 18) rfl (by kernel_rfl) (fun _ _ _ _ h => h) rfl rfl hn rfl (zH rfl rfl Tryz.underlying33 rfl sz31) ?_
     refine zJ ?_
     refine zW (i := 3) (j := 1) rfl rfl rfl (fun hne3_1 => ?_)
     refine zT (i := 19) (by kernel_rfl) rfl (s_storeRow rfl rfl rfl rfl rfl (rid := 1030) rfl (id := 3) rfl sz31 (Nat.le_of_ble_eq_true rfl) rfl (fun e => hne3_1 _ rfl (congrArg some e.symm))) fun _ => ?_
     refine d2_of_d1 (zJ ?_)
     refine zh (by kernel_rfl) ?_
     exact aend_join_on hJ1 v34 (zK _) ⟨.inl rfl, .inl (congrArg (fun z => some (Res.row v34 117 3 z)) (addK.trans (by rw [zBl hs]))), trivial⟩ (by repeat (first | exact kr _ | refine kc rfl ?_)) (by repeat (first | exact kr _ | refine kc rfl ?_))
    ·
     refine br rfl (za rfl rfl rfl (nb hn rfl) Tryz.underlying31 sz117 zr117 rfl rfl rfl (show _ = [.d (.str ⟨#[]⟩), .d (.int .i64 0), .d (.int .i64 0)] from by kernel_rfl) (by kernel_rfl) rfl (zv (by kernel_rfl) rfl) (yC _) (z8 rfl) (zq rfl)) fun _ => ?_
     refine d2_of_d1 (zJ ?_)
     refine zT (i := 1) (by kernel_rfl) rfl (zZ _ [] (zI rfl) rfl (nb hn rfl) (fun _ => trivial) (fun _ => zO rfl rfl (id := 3) rfl Tryz.underlying31 rfl rfl sees0)) fun _ => ?_
     refine d2_of_d1 (zJ ?_)
     refine zW (i := 1030) (j := 1) rfl rfl rfl (fun hne1030_1 => ?_)
     refine zT (i := 17) (by kernel_rfl) rfl (s_append (id := 1030) rfl rfl rfl (nb hn rfl) elt31 trivial rfl rfl rfl (by simp [chunk]; omega) (by simp [chunk]; omega) (fun b hb => (fun e => hne1030_1 _ hb (congrArg some e.symm)))) fun v34 => ?_
     refine d2_of_d1 ?_
     refine d1q (i := 18) rfl (by kernel_rfl) (fun _ _ _ _ h => h) rfl rfl hn rfl (zH rfl rfl Tryz.underlying33 rfl sz31) ?_
     refine zJ ?_
     refine zW (i := 3) (j := 1) rfl rfl rfl (fun hne3_1 => ?_)
     refine zT (i := 19) (by kernel_rfl) rfl (s_storeRow rfl rfl rfl rfl rfl (rid := 1030) rfl (id := 3) rfl sz31 (Nat.le_of_ble_eq_true rfl) rfl (fun e => hne3_1 _ rfl (congrArg some e.symm))) fun _ => ?_
     refine d2_of_d1 (zJ ?_)
     refine zh (by kernel_rfl) ?_
     exact aend_join_on hJ1 v34 (zK _) ⟨.inl rfl, .inl (congrArg (fun z => some (Res.row v34 117 3 z)) (addK.trans (by rw [zBl hs]))), trivial⟩ (by repeat (first | exact kr _ | refine kc rfl ?_)) (by repeat (first | exact kr _ | refine kc rfl ?_))
  ·
   rintro vS
   refine zS (zA (zB ?_))
   refine sq rfl rfl hn rfl (zD rfl rfl) ?_
   refine sq rfl rfl hn rfl (zp rfl rfl rfl (r := ((i + 1 : Nat) : Int)) (i64w (by omega) (by omega))) ?_
   refine sq rfl rfl hn rfl (zE rfl rfl) ?_
   refine zF ?_
   exact zR ⟨(i + 1, vS), by omega⟩ ⟨.inl rfl, zK _⟩ ⟨.inl rfl, .inl rfl, trivial⟩ (by simp only; omega) (by repeat (first | exact kr _ | refine kc rfl ?_)) (by repeat (first | exact kr _ | refine kc rfl ?_))
 ·
  have hie : i = b.stocks.length := by simp at hb0; omega
  subst hie
  rw [List.take_length]
  refine zk (zM (zM (zV (zA (zC ?_)))))
  refine y7 (gh_rowcell (id := 3) (k := 0) (rid := 1030) rfl rfl rfl) ?_
  refine zB ?_
  refine sq rfl rfl hn rfl (zf rfl rfl (id := 3) rfl Tryz.underlying33 rfl sz33 rfl rfl sees0) ?_
  refine stepW (zo rfl rfl rfl rfl rfl rfl (id := 2) rfl sz33 rfl (Nat.le_of_ble_eq_true rfl) rfl trivial) fun _ => ?_
  refine zF (zA (zQ ?_))
  exact zu (.inl rfl) hl rfl (.cellA rfl (id := 2) rfl Tryz.underlying33 rfl sz33 rfl rfl)
end Go.Proofs.YtplpcamcnppibaaGreatDoor
