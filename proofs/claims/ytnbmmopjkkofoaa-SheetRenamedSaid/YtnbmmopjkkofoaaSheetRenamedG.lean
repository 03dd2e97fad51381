/-
  A part of the proof that contangolaw.SheetRenamed returns true: what the last text needs, and no more. No condition: no statement of the seat is proved here.
-/
import Derived.Test.YtnbmmopjkkofoaaSheetRenamedF
namespace Go.Proofs.Ytnbmmopjkkofoaa
open Go.RowKit
set_option maxRecDepth 20000
set_option linter.all false
theorem walks_all (r : Reg) (v : Valid r) (b b2 b3 b5 N : Nat) (hN : N ≤ 9) : ∀ k, WalksOK r b b2 b3 b5 N k := by
  intro k
  induction k with
  | zero => intro d n m M Vis out vo _ _ _ h; omega
  | succ k ih => intro d n m M Vis out vo h1 h2 h3 h4 h5 h6 h7; exact walk_step r v b b2 b3 b5 N k hN ih d n m M Vis out vo h1 h2 h3 h4 h5 h6 h7
def noSpots : Spots := fun _ _ _ => False
theorem vok_none (r : Reg) (N : Nat) : VOK r N noSpots [] := ⟨fun _ _ _ h => h.elim, fun m => ⟨fun h => (by cases h), fun h => h.elim⟩, List.nodup_nil⟩
theorem walk_ok (r : Reg) (v : Valid r) (b b2 b3 b5 N : Nat) (hN : N ≤ 9) (M : D → D → Prop) (vo : Value) (hM : Good r M) :
    EffAt Try.prog 102 (.d (spotD 0 0 0) :: walkCa r b b2 b3 b5 N) (walkRs r b b2 b3 b5 N M noSpots [] vo) (X := WX r N noSpots 0 0 0) (fun _ => .d (.tup [])) (fun x => walkRs r b b2 b3 b5 N x.1.1 x.1.2.1 x.1.2.2.1 x.1.2.2.2) :=
  walks_all r v b b2 b3 b5 N hN _ 0 0 0 M noSpots [] vo (Nat.zero_le _) (Nat.zero_le _) (Nat.two_pow_pos _) (Nat.lt_succ_self _) hM (vok_none r N) .start
/-- What can have happened at the end of a day: all of it, each once. -/
def EvOK (r : Reg) (N : Nat) (out : List Nat) : Prop := (∀ m, m ∈ out ↔ Rch r N N r.entries.length m) ∧ out.length ≤ 64 ∧ out.Nodup
theorem ev_of {r : Reg} {N : Nat} {Vis : Spots} {out : List Nat} (v : Valid r) (hN : N ≤ 9) (h : WPost r N noSpots 0 0 0 Vis out) : EvOK r N out := by
  obtain ⟨h1, _, h3, h4⟩ := h
  have key : ∀ d n m, Rch r N d n m → Vis d n m := fun d n m hr => by
    induction hr with
    | start hg => exact h3 hg
    | step _ hs hg ih => exact h4 _ _ _ ih (fun h => h) _ hs hg
  exact ⟨fun m => (h1.2.1 m).trans ⟨h1.1 _ _ _, key _ _ _⟩, voK_len v hN h1, h1.2.2⟩
theorem good_none (r : Reg) : Good r fun _ _ => False := fun _ _ h => h.elim
theorem ev_bd {r : Reg} {N : Nat} {out : List Nat} (v : Valid r) (hN : N ≤ 9) (h : EvOK r N out) : ∀ m ∈ out, m < 18446744073709551616 := fun m hm => lt64 v.e6 (((h.1 m).1 hm).bd hN).2.2
/-- What is returned where evenings are asked for. -/
def AskP (r : Reg) (is : Bool) (N : Int) (out : List Nat) (e : Int) : Prop :=
  (checkE r ≠ 0 ∧ out = [] ∧ e = checkE r) ∨ (checkE r = 0 ∧ (is && dayB N) = false ∧ out = [] ∧ e = 2) ∨ (checkE r = 0 ∧ is = true ∧ ∃ n : Nat, N = n ∧ n ≤ 9 ∧ EvOK r n out ∧ e = bif out.isEmpty then 9 else 0)
def AskX (r : Reg) (is : Bool) (N : Int) : Type := {x : List Nat × Int // AskP r is N x.1 x.2}
theorem sz147 : Sz Try.prog 147 1 := (by kernel_rfl : (Try.prog.info? 147).map (·.size) = some 1)
theorem zr98 : (Try.prog.info? 98).map (·.zero) = some (some (.slice none 0 0)) := by kernel_rfl
theorem zr142 : (Try.prog.info? 142).map (·.zero) = some (some (.map none)) := by kernel_rfl
theorem zr147 : (Try.prog.info? 147).map (·.zero) = some (some .nilFunc) := by kernel_rfl
theorem evenings_ok (r : Reg) (v : Valid r) (b N : Nat) (hN : N ≤ 9) (M : D → D → Prop) (hM : Good r M) : EffAt Try.prog 83 [.d (.ptr (workC r b)), .d (.int .i64 (N : Nat))] [(1000, mapRes KS b M)] (X := {x : (D → D → Prop) × List Nat // Good r x.1 ∧ EvOK r N x.2}) (fun x => .d (donesD x.1.2)) (fun x => [(1000, mapRes KS b x.1.1)]) := by
  refine EffAt.of_awp Try.func83 rfl (by kernel_rfl) rfl fun Γ hn => ?_
  refine awp_seq ?_
  refine awp_region ?_
  refine stepW (s_box 2 rfl rfl rfl (nb hn rfl) rfl rfl) fun b2 => ?_
  refine stepW (s_box 3 rfl rfl rfl (nb hn rfl) rfl rfl) fun b3 => ?_
  refine stepW (s_alloc 1003 rfl rfl rfl (nb hn rfl) zr98 rfl rfl) fun b4 => ?_
  refine run_nil ?_
  refine aend_then ?_
  refine awp_seq ?_
  refine awp_region ?_
  refine stepW (s_makeMap (KS) 1001 rfl rfl rfl (nb hn rfl)) fun b7 => ?_
  refine stepW (s_alloc 5 rfl rfl rfl (nb hn rfl) zr142 rfl rfl) fun b5 => ?_
  refine stepW (s_store1 rfl rfl rfl rfl rfl rfl (id := 5) rfl sz142 (Nat.le_of_ble_eq_true rfl) rfl trivial) fun _ => ?_
  refine run_nil ?_
  refine aend_then ?_
  refine awp_seq ?_
  refine awp_region ?_
  refine stepW (s_alloc 1002 rfl rfl rfl (nb hn rfl) zr147 rfl rfl) fun b6 => ?_
  refine run_nil ?_
  refine aend_then ?_
  refine awp_seq ?_
  refine gh_awp (g_freeze (t := 5) 5 rfl (nb hn rfl) rfl rfl trivial) ?_
  refine gh_awp (g_freeze (t := 2) 2 rfl (nb hn rfl) rfl rfl trivial) ?_
  refine gh_awp (g_freeze (t := 3) 3 rfl (nb hn rfl) rfl rfl trivial) ?_
  refine gh_awp (gh_nilcell (id := 1003) (k := 0) 1004 102 1 rfl rfl) ?_
  refine awp_region ?_
  refine sq rfl rfl hn rfl (q_makeFunc rfl rfl rfl) ?_
  refine stepW (s_store1 rfl rfl rfl rfl rfl rfl (id := 1002) rfl sz147 (Nat.le_of_ble_eq_true rfl) rfl trivial) fun _ => ?_
  refine run_nil ?_
  refine aend_then ?_
  refine awp_seq ?_
  refine gh_awp (gh_req (id := 1001) rfl (congrArg (mapRes KS b7) vis_none.symm)) ?_
  refine awp_region ?_
  refine sq rfl rfl hn rfl (q_load rfl rfl (id := 1002) rfl Try.underlying147 rfl rfl sees0) ?_
  refine sq rfl rfl hn rfl (q_buildd rfl bt119 rfl rfl rfl rfl rfl) ?_
  refine stepW (s_callE (walk_ok r v b b7 b6 b4 N hN M (.slice none 0 0) hM) rfl rfl rfl (nb hn rfl) (.t rfl) rfl (.refl _) ⟨rfl, rfl, rfl, rfl, rfl, trivial⟩ (fun _ => rfl) (fun _ _ => trivial)) fun ⟨⟨M1, Vis1, out1, vo1⟩, hM1, hpo1⟩ => ?_
  refine run_nil ?_
  refine aend_then ?_
  refine awp_seq ?_
  refine awp_region ?_
  refine sq rfl rfl hn rfl (q_load rfl rfl (id := 1003) rfl Try.underlying98 rfl rfl sees0) ?_
  refine stepW (s_storeRow rfl rfl rfl rfl rfl (rid := 1004) rfl (id := 1003) rfl sz98 (Nat.le_of_ble_eq_true rfl) rfl trivial) fun _ => ?_
  refine run_nil ?_
  refine aend_then ?_
  refine awp_ret ?_
  refine gh_end (gh_rowcell (id := 1003) (k := 0) (rid := 1004) rfl rfl rfl) ?_
  exact ret_E (.inl rfl) ⟨(M1, out1), hM1, ev_of v hN hpo1⟩ (hands_1 rfl (.cell rfl (id := 1003) rfl Try.underlying98 rfl rfl)) ⟨rfl, trivial⟩
theorem asked_ok (r : Reg) (is : Bool) (N : Int) : EffAt Try.prog 53 [.d (regD r), .d (.bool is), .d (.int .i64 N)] [] (X := AskX r is N) (fun x => .d (.tup [donesD x.1.1, .int .i64 x.1.2])) (fun _ => []) := by
  refine EffAt.of_awp Try.func53 rfl (by kernel_rfl) rfl fun Γ hn => ?_
  refine awp_seq ?_
  refine awp_region ?_
  refine stepW (s_box 3 rfl rfl rfl (nb hn rfl) rfl rfl) fun b3 => ?_
  refine sq rfl rfl hn rfl (q_assign rfl rfl) ?_
  refine sq rfl rfl hn rfl (q_assign rfl rfl) ?_
  refine run_nil ?_
  refine aend_then ?_
  refine awp_seq ?_
  refine awp_seq ?_
  refine awp_region ?_
  refine sq rfl rfl hn rfl (q_loadAd rfl rfl (id := 3) rfl Try.underlying35 rfl sz35 rfl rfl sees0) ?_
  refine stepW (s_call [] (fun _ => CheckRegister_ok _) rfl (guard_none rfl) rfl (nb hn rfl) (fun _ => trivial) rfl rfl (.refl _)) fun _ => ?_
  refine sq rfl rfl hn rfl (q_assign rfl rfl) ?_
  refine run_nil ?_
  refine aend_then ?_
  refine awp_seq ?_
  refine awp_region ?_
  refine sq rfl rfl hn rfl (q_move rfl rfl) ?_
  refine sq rfl rfl hn rfl (q_neq rfl rfl rfl) ?_
  refine run_nil ?_
  refine aend_then ?_
  refine awp_cond rfl (fun hb0 => ?_) (fun hb0 => ?_)
  · simp only [bne_iff_ne, ne_eq] at hb0
    have hc0 : checkE r ≠ 0 := hb0
    refine awp_seq ?_
    refine awp_region ?_
    refine sq rfl rfl hn rfl (q_move rfl rfl) ?_
    refine sq rfl rfl hn rfl (q_assign rfl rfl) ?_
    refine sq rfl rfl hn rfl (q_assign rfl rfl) ?_
    refine run_nil ?_
    refine aend_then ?_
    refine awp_ret ?_
    refine aend_then_ret ?_
    exact ret_E (.inl rfl) ⟨([], checkE r), .inl ⟨hc0, rfl, rfl⟩⟩ ((hands_2d rfl (.tmp rfl) (.tmp rfl)).le (.tup (.cons (.nil 1) (.refl _)))) trivial
  · skip
    have hc0 : checkE r = 0 := by simpa using hb0
    have v := valid_of hc0
    refine awp_skip ?_
    refine aend_then ?_
    refine awp_seq ?_
    refine awp_seq ?_
    refine awp_region ?_
    refine sq rfl rfl hn rfl (q_move rfl rfl) ?_
    refine sq rfl rfl hn rfl (q_not rfl rfl) ?_
    refine sq rfl rfl hn rfl (q_move rfl rfl) ?_
    refine stepG [] (guard_some rfl rfl rfl) rfl (nb hn rfl) (fun hc => trivial) (fun hc => q_move rfl rfl) ?_
    refine stepW (s_call [(18, _)] (fun hc => day_ok _) rfl (guard_some rfl rfl rfl) rfl (nb hn rfl) (fun hc => ⟨⟨_, rfl, hc⟩, trivial⟩) rfl rfl (.refl _)) fun _ => ?_
    refine stepG [(19, _)] (guard_some rfl rfl rfl) rfl (nb hn rfl) (fun hc => ⟨⟨_, rfl, hc⟩, trivial⟩) (fun hc => q_not rfl rfl) ?_
    refine sq rfl rfl hn rfl (q_or rfl rfl rfl (by simp_all)) ?_
    refine run_nil ?_
    refine aend_then ?_
    refine awp_cond rfl (fun hb1 => ?_) (fun hb1 => ?_)
    · skip
      have his : (is && dayB N) = false := by cases is <;> simp at hb1 ⊢; exact hb1
      refine awp_seq ?_
      refine awp_region ?_
      refine sq rfl rfl hn rfl (q_assign rfl rfl) ?_
      refine sq rfl rfl hn rfl (q_assign rfl rfl) ?_
      refine run_nil ?_
      refine aend_then ?_
      refine awp_ret ?_
      refine aend_then_ret ?_
      exact ret_E (.inl rfl) ⟨([], 2), .inr (.inl ⟨hc0, his, rfl, rfl⟩)⟩ ((hands_2d rfl (.tmp rfl) (.tmp rfl)).le (.tup (.cons (.nil 1) (.refl _)))) trivial
    · skip
      have his : is = true ∧ dayB N = true := by cases is <;> simp at hb1 ⊢; exact hb1
      obtain ⟨n, rfl⟩ : ∃ n : Nat, N = n := ⟨N.toNat, by have := his.2; simp [dayB] at this; omega⟩
      have hN : n ≤ 9 := by have := his.2; simp [dayB] at this; omega
      refine awp_skip ?_
      refine aend_then ?_
      refine awp_seq ?_
      refine awp_region ?_
      refine sq rfl rfl hn rfl (q_loadAd rfl rfl (id := 3) rfl Try.underlying35 rfl sz35 rfl rfl sees0) ?_
      refine stepW (s_callE (work_ok r) rfl rfl rfl (nb hn rfl) (.d rfl) rfl (.refl _) trivial (fun _ => rfl) (fun _ _ => trivial)) fun b1 => ?_
      refine sq rfl rfl hn rfl (q_move rfl rfl) ?_
      refine stepW (s_callE (evenings_ok r v b1 n hN _ (good_none r)) rfl rfl rfl (nb hn rfl) (.d rfl) rfl (.refl _) ⟨rfl, trivial⟩ (fun _ => rfl) (fun _ _ => trivial)) fun ⟨⟨M1, out⟩, hM1, hev⟩ => ?_
      refine sq rfl rfl hn rfl (q_assign rfl rfl) ?_
      refine run_nil ?_
      refine aend_then ?_
      refine awp_seq ?_
      refine awp_seq ?_
      refine awp_region ?_
      refine sq rfl rfl hn rfl (q_move rfl rfl) ?_
      refine sq rfl rfl hn rfl (q_len rfl rfl Try.underlying98) ?_
      refine sq rfl rfl hn rfl (q_eql rfl rfl rfl) ?_
      refine run_nil ?_
      refine aend_then ?_
      refine awp_cond rfl (fun hb2 => ?_) (fun hb2 => ?_)
      · skip
        obtain rfl : out = [] := by simp at hb2; exact hb2
        refine awp_seq ?_
        refine awp_region ?_
        refine sq rfl rfl hn rfl (q_assign rfl rfl) ?_
        refine sq rfl rfl hn rfl (q_assign rfl rfl) ?_
        refine run_nil ?_
        refine aend_then ?_
        refine awp_ret ?_
        refine aend_then_ret ?_
        exact ret_E (.inl rfl) ⟨([], 9), .inr (.inr ⟨hc0, his.1, n, rfl, hN, hev, rfl⟩)⟩ ((hands_2d rfl (.tmp rfl) (.tmp rfl)).le (.tup (.cons (.nil 1) (.refl _)))) trivial
      · skip
        have hne : out.isEmpty = false := by cases out <;> simp at hb2 ⊢
        refine awp_skip ?_
        refine aend_then ?_
        refine awp_seq ?_
        refine awp_region ?_
        refine sq rfl rfl hn rfl (q_move rfl rfl) ?_
        refine sq rfl rfl hn rfl (q_assign rfl rfl) ?_
        refine sq rfl rfl hn rfl (q_assign rfl rfl) ?_
        refine run_nil ?_
        refine aend_then ?_
        refine awp_ret ?_
        exact ret_E (.inl rfl) ⟨(out, 0), .inr (.inr ⟨hc0, his.1, n, rfl, hN, hev, by rw [hne]; rfl⟩)⟩ (hands_2d rfl (.tmp rfl) (.tmp rfl)) trivial
end Go.Proofs.Ytnbmmopjkkofoaa
