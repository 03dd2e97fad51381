/-
  Walks by the rules of Base, printed by gen.py: the evenings. No condition: no statement of the seat is proved here.
-/
import Derived.Test.YtnbmmopjkkofoaaW7
namespace Go.Proofs.Ytnbmmopjkkofoaa
open Go.RowKit
set_option maxRecDepth 20000
set_option linter.all false

theorem goes_all (r : Reg) (v : Valid r) (b : Nat) : ∀ k, GoesOK r b k := by
  intro k
  induction k with
  | zero => intro d n m M _ _ _ h; omega
  | succ k ih => intro d n m M h1 h2 h3 h4 h5; exact goes_step r v b k ih d n m M h1 h2 h3 h4 h5
theorem goes_ok (r : Reg) (v : Valid r) (b d n m : Nat) (M : D → D → Prop) (hd : d ≤ 10) (hn : n ≤ r.entries.length) (hm : m < 2 ^ r.entries.length) (hM : Good r M) :
    EffAt Try.prog 68 [.d (.ptr (workC r b)), .d (spotD d n m)] [(1000, mapRes KS b M)] (X := {M // Good r M}) (fun _ => .d (.bool (goesB r d n m))) (fun M => [(1000, mapRes KS b M.1)]) :=
  goes_all r v b _ d n m M hd hn hm (Nat.lt_succ_self _) hM
abbrev Spots := Nat → Nat → Nat → Prop
/-- Where the walk goes on from a spot: it ends with the evening N. -/
def succL (r : Reg) (N d n m : Nat) : List (Nat × Nat × Nat) := if n < r.entries.length then nextL r d n m else if d = N then [] else [(d + 1, 0, m)]
/-- What can be reached, all that is left being possible. -/
inductive Rch (r : Reg) (N : Nat) : Spots
  | start (h : goesB r 0 0 0 = true) : Rch r N 0 0 0
  | step {d n m : Nat} {s : Nat × Nat × Nat} (h : Rch r N d n m) (hs : s ∈ succL r N d n m) (hg : goesB r s.1 s.2.1 s.2.2 = true) : Rch r N s.1 s.2.1 s.2.2
theorem Rch.bd {r : Reg} {N d n m : Nat} (h : Rch r N d n m) (hN : N ≤ 9) : d ≤ N ∧ n ≤ r.entries.length ∧ m < 2 ^ r.entries.length := by
  induction h with
  | start => exact ⟨by omega, by omega, Nat.two_pow_pos _⟩
  | step _ hs _ ih =>
    unfold succL at hs
    split at hs
    · obtain ⟨e1, e2, e3, e4⟩ := nextL_mem hs
      exact ⟨by omega, by omega, next_lt ih.2.2 e4 e3⟩
    · split at hs
      · cases hs
      · rw [List.mem_singleton] at hs
        subst hs
        exact ⟨by dsimp only; omega, by dsimp only; omega, ih.2.2⟩
theorem nodup_le : ∀ (n : Nat) (l : List Nat), l.Nodup → (∀ x ∈ l, x < n) → l.length ≤ n
  | 0, l, _, h => by cases l with
    | nil => simp
    | cons x l => exact absurd (h x (by simp)) (by omega)
  | n + 1, l, hn, h => by
    have h1 := nodup_le n (l.filter (fun x => x != n)) (hn.filter _) (fun x hx => by
      rw [List.mem_filter] at hx
      have := h x hx.1
      have h2 : x ≠ n := by simpa using hx.2
      omega)
    have h2 : l.length ≤ (l.filter (fun x => x != n)).length + 1 := by
      clear h1 h
      induction l with
      | nil => simp
      | cons y l ih =>
        have hn' := List.nodup_cons.1 hn
        by_cases e : y = n
        · subst e
          have : l.filter (fun x => x != y) = l := List.filter_eq_self.2 fun x hx => by
            have : x ≠ y := fun e => hn'.1 (e ▸ hx)
            simpa using this
          simp [this]
        · have hy : (y != n) = true := by simpa using e
          rw [List.filter_cons, hy]
          simp only [if_true, List.length_cons]
          have := ih hn'.2
          omega
    omega
def VOK (r : Reg) (N : Nat) (Vis : Spots) (out : List Nat) : Prop := (∀ d n m, Vis d n m → Rch r N d n m) ∧ (∀ m, m ∈ out ↔ Vis N r.entries.length m) ∧ out.Nodup
def ClosedUp (r : Reg) (N : Nat) (Vis Vis' : Spots) : Prop := ∀ a b c, Vis' a b c → ¬ Vis a b c → ∀ s ∈ succL r N a b c, goesB r s.1 s.2.1 s.2.2 = true → Vis' s.1 s.2.1 s.2.2
/-- What a walk from a spot leaves. -/
def WPost (r : Reg) (N : Nat) (Vis : Spots) (d n m : Nat) (Vis' : Spots) (out' : List Nat) : Prop :=
  VOK r N Vis' out' ∧ (∀ a b c, Vis a b c → Vis' a b c) ∧ (goesB r d n m = true → Vis' d n m) ∧ ClosedUp r N Vis Vis'
def addV (Vis : Spots) (d n m : Nat) : Spots := fun a b c => Vis a b c ∨ (a = d ∧ b = n ∧ c = m)
/-- The same in the midst of it, some of the next ones being done. -/
def WMid (r : Reg) (N : Nat) (Vis1 : Spots) (ss : List (Nat × Nat × Nat)) (Vis' : Spots) (out' : List Nat) : Prop :=
  VOK r N Vis' out' ∧ (∀ a b c, Vis1 a b c → Vis' a b c) ∧ (∀ s ∈ ss, goesB r s.1 s.2.1 s.2.2 = true → Vis' s.1 s.2.1 s.2.2) ∧ ClosedUp r N Vis1 Vis'
theorem mid_step {r : Reg} {N : Nat} {Vis1 Vis' Vis'' : Spots} {ss : List (Nat × Nat × Nat)} {out' out'' : List Nat} {d n m : Nat} (h : WMid r N Vis1 ss Vis' out') (k : WPost r N Vis' d n m Vis'' out'') : WMid r N Vis1 (ss ++ [(d, n, m)]) Vis'' out'' := by
  obtain ⟨h1, h2, h3, h4⟩ := h
  obtain ⟨k1, k2, k3, k4⟩ := k
  refine ⟨k1, fun a b c ha => k2 a b c (h2 a b c ha), fun s hs hg => ?_, fun a b c ha hna s hs hg => ?_⟩
  · rcases List.mem_append.1 hs with hs | hs
    · exact k2 _ _ _ (h3 s hs hg)
    · rw [List.mem_singleton] at hs
      subst hs
      exact k3 hg
  · by_cases hv : Vis' a b c
    · exact k2 _ _ _ (h4 a b c hv hna s hs hg)
    · exact k4 a b c ha hv s hs hg
theorem mid_end {r : Reg} {N : Nat} {Vis Vis' : Spots} {out' : List Nat} {d n m : Nat} (h : WMid r N (addV Vis d n m) (succL r N d n m) Vis' out') : WPost r N Vis d n m Vis' out' := by
  obtain ⟨h1, h2, h3, h4⟩ := h
  refine ⟨h1, fun a b c ha => h2 a b c (.inl ha), fun _ => h2 d n m (.inr ⟨rfl, rfl, rfl⟩), fun a b c ha hna s hs hg => ?_⟩
  by_cases he : a = d ∧ b = n ∧ c = m
  · obtain ⟨rfl, rfl, rfl⟩ := he
    exact h3 s hs hg
  · exact h4 a b c ha (fun hv => hv.elim hna he) s hs hg
theorem mid_start {r : Reg} {N : Nat} {Vis : Spots} {out : List Nat} {d n m : Nat} (h : VOK r N Vis out) (hr : Rch r N d n m) (hne : ¬ (d = N ∧ n = r.entries.length)) : WMid r N (addV Vis d n m) [] (addV Vis d n m) out :=
  ⟨⟨fun a b c ha => ha.elim (h.1 a b c) (fun ⟨e1, e2, e3⟩ => by rw [e1, e2, e3]; exact hr), fun x => (h.2.1 x).trans ⟨.inl, fun hx => hx.resolve_right fun ⟨e1, e2, _⟩ => hne ⟨e1.symm, e2.symm⟩⟩, h.2.2⟩, fun _ _ _ h => h, fun s hs => (by cases hs), fun a b c ha hna => (hna ha).elim⟩
theorem post_seen {r : Reg} {N : Nat} {Vis : Spots} {out : List Nat} {d n m : Nat} (h : VOK r N Vis out) (hs : goesB r d n m = true → Vis d n m) : WPost r N Vis d n m Vis out :=
  ⟨h, fun _ _ _ h => h, hs, fun a b c ha hna => (hna ha).elim⟩
theorem post_end {r : Reg} {N : Nat} {Vis : Spots} {out : List Nat} {m : Nat} (h : VOK r N Vis out) (hr : Rch r N N r.entries.length m) (hnv : ¬ Vis N r.entries.length m) : WPost r N Vis N r.entries.length m (addV Vis N r.entries.length m) (out ++ [m]) := by
  refine ⟨⟨fun a b c ha => ha.elim (h.1 a b c) (fun ⟨e1, e2, e3⟩ => by rw [e1, e2, e3]; exact hr), fun x => ?_, ?_⟩, fun _ _ _ => .inl, fun _ => .inr ⟨rfl, rfl, rfl⟩, fun a b c ha hna s hs _ => ?_⟩
  · rw [List.mem_append, h.2.1 x, List.mem_singleton]
    exact ⟨fun hx => hx.imp id (fun e => ⟨rfl, rfl, e⟩), fun hx => hx.imp id (fun e => e.2.2)⟩
  · rw [List.nodup_append]
    refine ⟨h.2.2, by simp, fun x hx y hy => ?_⟩
    rw [List.mem_singleton] at hy
    subst hy
    intro e
    subst e
    exact hnv ((h.2.1 x).1 hx)
  · obtain ⟨rfl, rfl, rfl⟩ := ha.resolve_left hna
    simp [succL] at hs
/-- The spots where the walk has been, as a map. -/
def visM (Vis : Spots) (x y : D) : Prop := ∃ d n m, Vis d n m ∧ x = spotD d n m ∧ y = .bool true
theorem spotD_inj {d n m d' n' m' : Nat} (h : spotD d n m = spotD d' n' m') : d = d' ∧ n = n' ∧ m = m' := by
  have e3 := D.agg.inj h
  simpa only [spotC, List.cons.injEq, D.int.injEq, true_and, and_true, Int.natCast_inj] using e3
theorem vis_set (Vis : Spots) (d n m : Nat) : setM (visM Vis) (spotD d n m) (.bool true) = visM (addV Vis d n m) := by
  funext x y
  refine propext ⟨fun h => ?_, fun ⟨a, b, c, h, e1, e2⟩ => ?_⟩
  · rcases h with ⟨e1, e2⟩ | ⟨_, a, b, c, h, e1, e2⟩
    · exact ⟨d, n, m, .inr ⟨rfl, rfl, rfl⟩, e1, e2⟩
    · exact ⟨a, b, c, .inl h, e1, e2⟩
  · by_cases he : x = spotD d n m
    · exact .inl ⟨he, e2⟩
    · rcases h with h | ⟨rfl, rfl, rfl⟩
      · exact .inr ⟨he, a, b, c, h, e1, e2⟩
      · exact (he e1).elim
theorem vis_none : visM (fun _ _ _ => False) = fun _ _ => False := by
  funext x y
  exact propext ⟨fun ⟨_, _, _, h, _⟩ => h, fun h => h.elim⟩
theorem vis_look {Vis : Spots} {d n m : Nat} (lr : {q : Option D // (∀ x, q = some x → visM Vis (spotD d n m) x) ∧ (q = none → ∀ x, ¬ visM Vis (spotD d n m) x)}) : ∃ xb : Bool, lr.1.getD (.bool false) = .bool xb ∧ (xb = true → Vis d n m) ∧ (xb = false → ¬ Vis d n m) := by
  obtain ⟨q, h1, h2⟩ := lr
  cases q with
  | none => exact ⟨false, rfl, fun h => (by cases h), fun _ hv => h2 rfl _ ⟨d, n, m, hv, rfl, rfl⟩⟩
  | some x =>
    obtain ⟨a, b, c, hv, e1, e2⟩ := h1 x rfl
    obtain ⟨rfl, rfl, rfl⟩ := spotD_inj e1
    exact ⟨true, e2, fun _ => hv, fun h => (by cases h)⟩
@[reducible] def walkCa (r : Reg) (b b2 b3 b5 N : Nat) : List TV := [.d (.ptr [.raw (.map (some b2))]), .d (.ptr [.ptr (workC r b)]), .val (.pointer (some ⟨b3, 0, none⟩)), .d (.ptr [.int .i64 (N : Nat)]), .val (.pointer (some ⟨b5, 0, none⟩))]
@[reducible] def walkRs (r : Reg) (b b2 b3 b5 N : Nat) (M : D → D → Prop) (Vis : Spots) (out : List Nat) (v : Value) : List (Nat × Res) :=
  [(1000, mapRes KS b M), (1001, mapRes KS b2 (visM Vis)), (1002, .box b3 147 [.fn (.func 102) [] (walkCa r b b2 b3 b5 N)]), (1003, .box b5 98 [.val v]), (1004, .row v 102 1 (out.map doneE))]
def WX (r : Reg) (N : Nat) (Vis : Spots) (d n m : Nat) : Type := {x : (D → D → Prop) × Spots × List Nat × Value // Good r x.1 ∧ WPost r N Vis d n m x.2.1 x.2.2.1}
def WalksOK (r : Reg) (b b2 b3 b5 N k : Nat) : Prop := ∀ (d n m : Nat) (M : D → D → Prop) (Vis : Spots) (out : List Nat) (v : Value), d ≤ N → n ≤ r.entries.length → m < 2 ^ r.entries.length → muS r d n < k → Good r M → VOK r N Vis out → (goesB r d n m = true → Rch r N d n m) →
  EffAt Try.prog 102 (.d (spotD d n m) :: walkCa r b b2 b3 b5 N) (walkRs r b b2 b3 b5 N M Vis out v) (X := WX r N Vis d n m) (fun _ => .d (.tup [])) (fun x => walkRs r b b2 b3 b5 N x.1.1 x.1.2.1 x.1.2.2.1 x.1.2.2.2)
theorem voK_len {r : Reg} {N : Nat} {Vis : Spots} {out : List Nat} (v : Valid r) (hN : N ≤ 9) (h : VOK r N Vis out) : out.length ≤ 64 := by
  refine nodup_le 64 out h.2.2 fun x hx => ?_
  have h1 := ((h.1 _ _ _ ((h.2.1 x).1 hx)).bd hN).2.2
  have h2 : 2 ^ r.entries.length ≤ 2 ^ 6 := Nat.pow_le_pow_right (by omega) v.e6
  omega
theorem sz98 : Sz Try.prog 98 1 := (by kernel_rfl : (Try.prog.info? 98).map (·.size) = some 1)
theorem zr102 : (Try.prog.info? 102).map (·.zero) = some (some (.int .u64 0)) := by kernel_rfl
theorem elt98 : ElT Try.prog 98 102 1 8 := elt_of Try.underlying98 (z := (.int .u64 0)) (by kernel_rfl) rfl (by decide)


theorem nextXs_len36 (r : Reg) (d n m : Nat) : ∀ x ∈ nextXs r d n m, x.length = (#[36] : Array Tmp).size := fun x hx => by
  obtain ⟨s, _, rfl⟩ := List.mem_map.1 hx
  rfl
theorem fill_nat64 {x : Nat} {zs : List TV} (hz : zs.length = 1) : fillTV (fun i => some (i * 1, 1)) zs [(0, .d (.int .u64 (x : Nat)))] = some [.d (.int .u64 (x : Nat))] := fill_d hz rfl rfl rfl
theorem walk_step (r : Reg) (v : Valid r) (b b2 b3 b5 N k : Nat) (hN : N ≤ 9) (ih : WalksOK r b b2 b3 b5 N k) (d n m : Nat) (M : D → D → Prop) (Vis : Spots) (out : List Nat) (vo : Value) (hd : d ≤ N) (hn6 : n ≤ r.entries.length) (hm : m < 2 ^ r.entries.length) (hk : muS r d n < k + 1) (hM : Good r M) (hV : VOK r N Vis out) (hRT : goesB r d n m = true → Rch r N d n m) : EffAt Try.prog 102 (.d (spotD d n m) :: walkCa r b b2 b3 b5 N) (walkRs r b b2 b3 b5 N M Vis out vo) (X := WX r N Vis d n m) (fun _ => .d (.tup [])) (fun x => walkRs r b b2 b3 b5 N x.1.1 x.1.2.1 x.1.2.2.1 x.1.2.2.2) := by
  have he6 := v.e6
  have hm64 := lt64 he6 hm
  have ho64 := voK_len v hN hV
  refine EffAt.of_awpM Try.func102 rfl (by kernel_rfl) rfl fun Γ hn => ?_
  refine awp_seq ?_
  refine awp_region ?_
  refine stepW (s_box 6 rfl rfl rfl (nb hn rfl) rfl rfl) fun b6 => ?_
  refine run_nil ?_
  refine aend_then ?_
  refine awp_seq ?_
  refine awp_seq ?_
  refine gh_awp (g_freeze (t := 6) 6 rfl (nb hn rfl) rfl rfl trivial) ?_
  refine awp_region ?_
  refine sq rfl rfl hn rfl (q_loadp rfl rfl Try.underlying142 rfl seesF0) ?_
  refine sq rfl rfl hn rfl (q_loadpA rfl rfl Try.underlying119 rfl sz119 rfl rfl seesF0) ?_
  refine stepW (s_lookup (id := 1001) (zd := (.bool false)) rfl rfl rfl (nb hn rfl) spot_law Try.underlying142 zr4 rfl (.d rfl) rfl rfl (spot_kv (by omega) (by omega) hm64) rfl) fun lr => ?_
  obtain ⟨xb, hx1, hx2, hx3⟩ := vis_look lr
  rw [hx1]
  refine sq rfl rfl hn rfl (q_move rfl rfl) ?_
  refine stepG [] (guard_some rfl rfl rfl) rfl (nb hn rfl) (fun hc => trivial) (fun hc => q_loadp rfl rfl Try.underlying115 rfl seesF0) ?_
  refine stepG [] (guard_some rfl rfl rfl) rfl (nb hn rfl) (fun hc => trivial) (fun hc => q_loadpA rfl rfl Try.underlying119 rfl sz119 rfl rfl seesF0) ?_
  refine stepW (s_callEg [(14, _), (15, _)] ⟨M, hM⟩ (fun hc => goes_ok r v b d n m M (by omega) hn6 hm hM) rfl (guard_some rfl rfl rfl) rfl (nb hn rfl) (fun hc => ⟨⟨_, rfl, hc⟩, ⟨_, rfl, hc⟩, trivial⟩) (.d rfl) rfl (.refl _) ⟨rfl, trivial⟩ (fun _ => rfl) (fun _ _ => trivial) ⟨rfl, trivial⟩) fun ⟨⟨M1, hM1⟩, hc1⟩ => ?_
  refine stepG [(16, _)] (guard_some rfl rfl rfl) rfl (nb hn rfl) (fun hc => ⟨⟨_, rfl, hc⟩, trivial⟩) (fun hc => q_not rfl rfl) ?_
  refine sq rfl rfl hn rfl (q_or rfl rfl rfl (by simp_all)) ?_
  refine run_nil ?_
  refine aend_then ?_
  refine awp_cond rfl (fun hb0 => ?_) (fun hb0 => ?_)
  · skip
    have hpo : WPost r N Vis d n m Vis out := post_seen hV fun hg => by cases xb with
      | true => exact hx2 rfl
      | false => rw [hg] at hb0; simp at hb0
    refine awp_ret ?_
    refine aend_then_ret ?_
    exact ret_M (.inl rfl) ⟨(M1, Vis, out, vo), hM1, hpo⟩ (.inl rfl) (hands_0 rfl) ⟨rfl, rfl, rfl, rfl, rfl, trivial⟩ rfl
  · skip
    obtain ⟨rfl, hg⟩ : xb = false ∧ goesB r d n m = true := by cases xb <;> simp at hb0 ⊢; exact hb0
    have hnv := hx3 rfl
    have hrt := hRT hg
    refine awp_skip ?_
    refine aend_then ?_
    refine awp_seq ?_
    refine awp_region ?_
    refine sq rfl rfl hn rfl (q_loadp rfl rfl Try.underlying142 rfl seesF0) ?_
    refine sq rfl rfl hn rfl (q_loadpA rfl rfl Try.underlying119 rfl sz119 rfl rfl seesF0) ?_
    refine stepW (s_mapUpdate (id := 1001) rfl rfl rfl spot_law Try.underlying142 (.d rfl) rfl rfl (spot_kv (by omega) (by omega) hm64) rfl rfl rfl (vis_set Vis d n m) trivial) fun _ => ?_
    refine run_nil ?_
    refine aend_then ?_
    refine awp_seq ?_
    refine awp_seq ?_
    refine d_start (W := fun b => True) fmo ?_
    refine d1q (i := 0) rfl (by kernel_rfl) (fun _ _ _ _ h => h) rfl rfl hn rfl (q_fieldAddrp rfl rfl Try.underlying119 rfl sz3 rfl) ?_
    refine d1q (i := 1) rfl (by kernel_rfl) (fun _ _ _ _ h => h) rfl rfl hn rfl (q_loadp rfl rfl Try.underlying3 rfl seesFA) ?_
    refine d1q (i := 2) rfl (by kernel_rfl) (fun _ _ _ _ h => h) rfl rfl hn rfl (q_loadp rfl rfl Try.underlying115 rfl seesFA) ?_
    refine d1q (i := 3) rfl (by kernel_rfl) (fun _ _ _ _ h => h) rfl rfl hn rfl (q_nilCheckp rfl rfl) ?_
    refine d1q (i := 4) rfl (by kernel_rfl) (fun _ _ _ _ h => h) rfl rfl hn rfl (q_fieldAddrp rfl rfl Try.underlying144 rfl sz35 rfl) ?_
    refine d1q (i := 5) rfl (by kernel_rfl) (fun _ _ _ _ h => h) rfl rfl hn rfl (q_fieldAddrp rfl rfl Try.underlying35 rfl sz32 rfl) ?_
    refine d1q (i := 6) rfl (by kernel_rfl) (fun _ _ _ _ h => h) rfl rfl hn rfl (q_loadp rfl rfl Try.underlying32 rfl seesFA) ?_
    refine d1q (i := 7) rfl (by kernel_rfl) (fun _ _ _ _ h => h) rfl rfl hn rfl (q_len rfl rfl Try.underlying32) ?_
    refine d1q (i := 8) rfl (by kernel_rfl) (fun _ _ _ _ h => h) rfl rfl hn rfl (q_lss rfl rfl rfl) ?_
    refine d1_of_d2 ?_
    refine d2_done (by kernel_rfl) ?_
    refine aend_then ?_
    refine awp_cond rfl (fun hb1 => ?_) (fun hb1 => ?_)
    · try simp only [decide_eq_true_eq, decide_eq_false_iff_not, Bool.and_eq_true, Bool.or_eq_true, Bool.and_eq_false_iff, Bool.or_eq_false_iff, Bool.not_eq_true', Bool.not_eq_false', beq_iff_eq, bne_iff_ne, ne_eq, beq_eq_false_iff_ne, bne_eq_false_iff_eq, Int.not_lt, Int.not_le] at hb1
      have hnl : n < r.entries.length := by simp only [List.length_map] at hb1; omega
      obtain ⟨e, he⟩ := ex_get hnl
      have hne : ¬ (d = N ∧ n = r.entries.length) := by omega
      refine awp_seq ?_
      refine awp_seq ?_
      refine d_start (W := fun b => True) fmo ?_
      refine d1q (i := 0) rfl (by kernel_rfl) (fun _ _ _ _ h => h) rfl rfl hn rfl (q_loadp rfl rfl Try.underlying115 rfl seesFA) ?_
      refine d1q (i := 1) rfl (by kernel_rfl) (fun _ _ _ _ h => h) rfl rfl hn rfl (q_nilCheckp rfl rfl) ?_
      refine d1q (i := 2) rfl (by kernel_rfl) (fun _ _ _ _ h => h) rfl rfl hn rfl (q_fieldAddrp rfl rfl Try.underlying144 rfl sz35 rfl) ?_
      refine d1q (i := 3) rfl (by kernel_rfl) (fun _ _ _ _ h => h) rfl rfl hn rfl (q_loadpA rfl rfl Try.underlying35 rfl sz35 rfl rfl seesFA) ?_
      refine d1q (i := 4) rfl (by kernel_rfl) (fun _ _ _ _ h => h) rfl rfl hn rfl (q_loadpA rfl rfl Try.underlying119 rfl sz119 rfl rfl seesFA) ?_
      refine d1_of_d2 ?_
      refine d2_one (i := 5) (by kernel_rfl) rfl (s_call [] (fun _ => next_ok _ _ _ _) rfl (guard_none rfl) rfl (nb hn rfl) (fun _ => trivial) rfl rfl (.refl _)) fun _ => ?_
      refine d2_of_d1 ?_
      refine d1_of_d2 ?_
      refine d2_done (by kernel_rfl) ?_
      refine aend_then ?_
      refine awp_block ?_
      refine awp_rangeFunc (ι := {x : (D → D → Prop) × Spots × List Nat × Value // Good r x.1}) (fun x => [(1000, mapRes KS b x.1.1), (1001, mapRes KS b2 (visM x.1.2.1)), (1002, .box b3 147 [.fn (.func 102) [] (walkCa r b b2 b3 b5 N)]), (1003, .box b5 98 [.val x.1.2.2.2]), (1004, .row x.1.2.2.2 102 1 (x.1.2.2.1.map doneE))]) (fun j x => WMid r N (addV Vis d n m) ((nextL r d n m).take j) x.1.2.1 x.1.2.2.1) (fun _ _ => False) ⟨(M1, addV Vis d n m, out, vo), hM1⟩ ((next1_ok r d n m e he v (by omega) (by omega) hm64)) rfl (nextXs_len36 r d n m) (by rw [hn]; rfl) (.inl rfl) ⟨rfl, rfl, rfl, rfl, rfl, trivial⟩ (mid_start hV hrt hne) (fun _ => rfl) (fun _ => rfl) rfl rfl ?_ ?_ ?_
      · rintro l0 r0 Γr j0 x0 ⟨⟨M2, Vis2, out2, vo2⟩, hM2⟩ hnr hrd hx0 hA0
        dsimp only at hA0 hM2
        obtain ⟨s, hs, rfl⟩ := nextXs_get hx0
        have hsm := nextL_mem (List.mem_of_getElem? hs)
        have hsin : s ∈ succL r N d n m := by rw [succL, if_pos hnl]; exact List.mem_of_getElem? hs
        obtain ⟨s1, s2, s3⟩ := s
        obtain rfl : d = s1 := hsm.1.symm
        obtain rfl : n + 1 = s2 := hsm.2.1.symm
        have hs3 := hsm.2.2.1
        dsimp only at hs3
        have hs3b : s3 < 2 ^ r.entries.length := next_lt hm hnl hs3
        refine awi_region ?_
        refine stepWI ((s_alloc 7 rfl rfl rfl (nb (hnr.trans hn) rfl) zr119 rfl rfl).i rfl) fun b7 => ?_
        refine stepWI ((s_store rfl rfl rfl rfl rfl rfl (id := 7) rfl sz119 rfl (Nat.le_of_ble_eq_true rfl) rfl trivial).i rfl) fun _ => ?_
        refine run_nilI ?_
        refine aend_begin hrd rfl ?_
        refine awi_block ?_
        refine awi_region ?_
        refine sqI rfl rfl (hnr.trans hn) rfl (q_load rfl rfl (id := 1002) rfl Try.underlying147 rfl rfl sees0) rfl ?_
        refine sqI rfl rfl (hnr.trans hn) rfl (q_loadAd rfl rfl (id := 7) rfl Try.underlying119 rfl sz119 rfl rfl sees0) rfl ?_
        refine stepWI ((s_callE (ih d (n + 1) s3 M2 Vis2 out2 vo2 hd (by omega) hs3b (by have := muS_next (r := r) (by omega : d ≤ 9) hnl; omega) hM2 hA0.1 (fun hg3 => Rch.step hrt hsin hg3)) rfl rfl rfl (nb (hnr.trans hn) rfl) (.t rfl) rfl (.refl _) ⟨rfl, rfl, rfl, rfl, rfl, trivial⟩ (fun _ => rfl) (fun _ _ => trivial)).i rfl) fun ⟨⟨M3, Vis3, out3, vo3⟩, hM3, hpo3⟩ => ?_
        refine run_nilI ?_
        refine aend_block ?_
        exact aend_round_go ⟨(M3, Vis3, out3, vo3), hM3⟩ (by have := mid_step hA0 hpo3; show WMid _ _ _ _ _ _; rw [List.take_add_one, hs]; exact this) ⟨rfl, rfl, rfl, rfl, rfl, rfl, trivial⟩
      · rintro ⟨⟨M2, Vis2, out2, vo2⟩, hM2⟩ D0 hA0
        rw [show (nextXs r d n m).length = (nextL r d n m).length by simp [nextXs], List.take_length] at hA0
        dsimp only at hA0 hM2
        have hpo : WPost r N Vis d n m Vis2 out2 := mid_end (by rw [succL, if_pos hnl]; exact hA0)
        refine aend_block ?_
        refine aend_then ?_
        refine awp_ret ?_
        refine aend_then_ret ?_
        exact ret_M (.inl rfl) ⟨(M2, Vis2, out2, vo2), hM2, hpo⟩ (.inr rfl) (hands_0 rfl) ⟨rfl, rfl, rfl, rfl, rfl, trivial⟩ rfl
      · exact fun _ _ _ h => h.elim
    · try simp only [decide_eq_true_eq, decide_eq_false_iff_not, Bool.and_eq_true, Bool.or_eq_true, Bool.and_eq_false_iff, Bool.or_eq_false_iff, Bool.not_eq_true', Bool.not_eq_false', beq_iff_eq, bne_iff_ne, ne_eq, beq_eq_false_iff_ne, bne_eq_false_iff_eq, Int.not_lt, Int.not_le] at hb1
      obtain rfl : r.entries.length = n := by simp only [List.length_map] at hb1; omega
      refine awp_skip ?_
      refine aend_then ?_
      refine awp_seq ?_
      refine awp_seq ?_
      refine awp_region ?_
      refine sq rfl rfl hn rfl (q_fieldAddrp rfl rfl Try.underlying119 rfl sz3 rfl) ?_
      refine sq rfl rfl hn rfl (q_loadp rfl rfl Try.underlying3 rfl seesF0) ?_
      refine sq rfl rfl hn rfl (q_loadp rfl rfl Try.underlying3 rfl seesF0) ?_
      refine sq rfl rfl hn rfl (q_eql rfl rfl rfl) ?_
      refine run_nil ?_
      refine aend_then ?_
      refine awp_cond rfl (fun hb2 => ?_) (fun hb2 => ?_)
      · try simp only [decide_eq_true_eq, decide_eq_false_iff_not, Bool.and_eq_true, Bool.or_eq_true, Bool.and_eq_false_iff, Bool.or_eq_false_iff, Bool.not_eq_true', Bool.not_eq_false', beq_iff_eq, bne_iff_ne, ne_eq, beq_eq_false_iff_ne, bne_eq_false_iff_eq, Int.not_lt, Int.not_le] at hb2
        obtain rfl : d = N := by omega
        have hpo := post_end hV hrt hnv
        refine awp_seq ?_
        refine awp_region ?_
        refine sq rfl rfl hn rfl (q_load rfl rfl (id := 1003) rfl Try.underlying98 rfl rfl sees0) ?_
        refine sq rfl rfl hn rfl (q_fieldAddrp rfl rfl Try.underlying119 rfl sz102 rfl) ?_
        refine sq rfl rfl hn rfl (q_loadp rfl rfl Try.underlying102 rfl seesF0) ?_
        refine stepW (s_buildSlice rfl rfl rfl (nb hn rfl) Try.underlying98 sz102 zr102 rfl rfl rfl (show _ = [.d (.int .u64 0)] from by kernel_rfl) (by kernel_rfl) rfl (fill_nat64 rfl) rfl rfl rfl) fun _ => ?_
        refine stepW (s_append (id := 1004) rfl rfl rfl (nb hn rfl) elt98 trivial rfl rfl rfl (by simp [chunk]; omega) (by simp [chunk]; omega) (fun b hb => trivial)) fun v48 => ?_
        refine stepW (s_storeRow rfl rfl rfl rfl rfl (rid := 1004) rfl (id := 1003) rfl sz98 (Nat.le_of_ble_eq_true rfl) rfl trivial) fun _ => ?_
        refine run_nil ?_
        refine aend_then ?_
        refine awp_ret ?_
        refine aend_then_ret ?_
        exact ret_M (.inl rfl) ⟨(M1, addV Vis d r.entries.length m, out ++ [m], v48), hM1, hpo⟩ (.inl rfl) (hands_0 rfl) ⟨rfl, rfl, rfl, rfl, (by rw [List.map_append]; rfl), trivial⟩ rfl
      · try simp only [decide_eq_true_eq, decide_eq_false_iff_not, Bool.and_eq_true, Bool.or_eq_true, Bool.and_eq_false_iff, Bool.or_eq_false_iff, Bool.not_eq_true', Bool.not_eq_false', beq_iff_eq, bne_iff_ne, ne_eq, beq_eq_false_iff_ne, bne_eq_false_iff_eq, Int.not_lt, Int.not_le] at hb2
        have hdN : d ≠ N := by omega
        refine awp_skip ?_
        refine aend_then ?_
        refine awp_seq ?_
        refine awp_region ?_
        refine sq rfl rfl hn rfl (q_loadp rfl rfl Try.underlying115 rfl seesF0) ?_
        refine sq rfl rfl hn rfl (q_loadpA rfl rfl Try.underlying119 rfl sz119 rfl rfl seesF0) ?_
        refine stepW (s_call [] (fun _ => closed_ok r b d r.entries.length m v (by omega) hm64) rfl (guard_none rfl) rfl (nb hn rfl) (fun _ => trivial) rfl rfl (.refl _)) fun _ => ?_
        refine sq rfl rfl hn rfl (q_move rfl rfl) ?_
        refine sq rfl rfl hn rfl (q_extractd rfl rfl rfl) ?_
        refine sq rfl rfl hn rfl (q_extractd rfl rfl rfl) ?_
        refine stepW (s_alloc 8 rfl rfl rfl (nb hn rfl) zr119 rfl rfl) fun b8 => ?_
        refine stepW (s_store rfl rfl rfl rfl rfl rfl (id := 8) rfl sz119 rfl (Nat.le_of_ble_eq_true rfl) rfl trivial) fun _ => ?_
        refine sq rfl rfl hn rfl (q_assign rfl rfl) ?_
        refine run_nil ?_
        refine aend_then ?_
        refine awp_region ?_
        refine sq rfl rfl hn rfl (q_load rfl rfl (id := 1002) rfl Try.underlying147 rfl rfl sees0) ?_
        refine sq rfl rfl hn rfl (q_loadAd rfl rfl (id := 8) rfl Try.underlying119 rfl sz119 rfl rfl sees0) ?_
        refine stepW (s_callE (ih (d + 1) 0 m M1 (addV Vis d r.entries.length m) out vo (by omega) (by omega) hm (by have := muS_day (r := r) (n := r.entries.length) (by omega : d ≤ 9); omega) hM1 (mid_start hV hrt (fun h => hdN h.1)).1 (fun hg3 => Rch.step (s := (d + 1, 0, m)) hrt (by simp [succL, hdN]) hg3)) rfl rfl rfl (nb hn rfl) (.t rfl) rfl (.refl _) ⟨rfl, rfl, rfl, rfl, rfl, trivial⟩ (fun _ => rfl) (fun _ _ => trivial)) fun ⟨⟨M3, Vis3, out3, vo3⟩, hM3, hpo3⟩ => ?_
        refine run_nil ?_
        exact ret_M (.inr rfl) ⟨(M3, Vis3, out3, vo3), hM3, mid_end (by have := mid_step (mid_start hV hrt (fun h => hdN h.1)) hpo3; rw [succL, if_neg (by omega), if_neg hdN]; exact this)⟩ (.inl rfl) (hands_0 rfl) ⟨rfl, rfl, rfl, rfl, rfl, trivial⟩ rfl
end Go.Proofs.Ytnbmmopjkkofoaa
