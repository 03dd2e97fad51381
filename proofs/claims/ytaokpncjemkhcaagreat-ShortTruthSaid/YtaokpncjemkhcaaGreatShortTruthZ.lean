/-
  The law ShortTruth returns true for every input, and leaves its arguments as they were: the given statement, whole. No condition.
-/
import Derived.Test.YtaokpncjemkhcaaGreatShortTruthO
namespace Go.Proofs.YtaokpncjemkhcaaGreat
open Go.RowKit
set_option maxRecDepth 20000
set_option linter.all false
abbrev truL (l : Ldg) (rx : Reg) : Ldg := ⟨bare8 rx, l.day, l.lends, l.dues⟩
theorem Happened8_eff {hs : Int} {H : Nat} {start : List Int} {words : List Nat} {many : Nat} (e : hs = (H : Int)) (v : Valid ⟨(H : Int), start, [], []⟩) (hw5 : ∀ x ∈ words, x < 65536) (hm5 : many < 256) :
    EffAt Tryz.prog 50 [.d (.int .i64 hs), .d (ints start), .d (wordsD words), .d (.int .u8 (many : Nat))] [] (X := HapX H start) (fun x => .d (.tup [regD x.1.1, ints x.1.2])) (fun _ => []) := by
  subst e; exact Happened_eff H start words many v hw5 hm5
theorem any_snocL {f : List Int → Bool} {s : List (List Int)} {j : Nat} {z : List Int} (h : s[j]? = some z) : (s.take (j + 1)).any f = ((s.take j).any f || f z) := by
  rw [List.take_add_one, h, List.any_append]; simp
theorem bad_or {a : Bool} {n : Int} (h : ((!a) || (n != 0)) = false) : n = 0 := by
  simp only [Bool.or_eq_false_iff] at h; simpa using h.2
theorem ShortTruth_ok (l : Ldg) (ws : List Nat) (hw5 : ∀ x ∈ ws, x < 65536) (u : Nat) (hu5 : u < 256) : PureAt Tryz.prog 15 [ldgD l, wordsD ws, .int .u8 (u : Nat)] (.bool true) := by
 refine PureAt.of_awp Tryz.func15 rfl (by kernel_rfl) (Nat.le_of_ble_eq_true rfl) fun Γ hn hl => ?_
 refine zC (zB ?_)
 refine stepW (zr 3 rfl rfl rfl (nb hn rfl) rfl rfl) fun b3 => ?_
 refine sq rfl rfl hn rfl (zF rfl rfl) ?_
 refine zE (zA (zC (zC ?_)))
 refine zw (zp (t := 3) 3 rfl (nb hn rfl) rfl rfl trivial) ?_
 refine zB ?_
 refine sq rfl rfl hn rfl (zf rfl rfl Tryz.underlying33 rfl sz33 rfl rfl seesF0) ?_
 refine stepW (s_call [] (fun _ => ready8_ok l) rfl (zJ rfl) rfl (nb hn rfl) (fun _ => trivial) rfl rfl (.refl _)) fun _ => ?_
 refine sq rfl rfl hn rfl (yE rfl rfl) ?_
 refine zE (zA ?_)
 refine zQ rfl (fun hb0 => ?_) (fun hb0 => ?_)
 ·
  refine zC (zB ?_)
  refine stepW (s_call [] (fun _ => zDH) rfl (zJ rfl) rfl (nb hn rfl) (fun _ => trivial) rfl rfl (.refl _)) fun _ => ?_
  refine sq rfl rfl hn rfl (zF rfl rfl) ?_
  refine zE (zA (zP (zM ?_)))
  refine zj (zm (.inl rfl) hl rfl (.tmp rfl)) ?_
  rfl
 ·
  obtain ⟨hth, hc⟩ := ready_in hb0
  have L := zAE hc
  obtain ⟨z1, z2, z3, z4, z5⟩ := thin_sz hth
  have hN := L.hN
  have v0 : Valid ⟨((houN l : Nat) : Int), l.reg.start, [], []⟩ := by rw [← hN.1]; exact ⟨L.v.h1, L.v.h4, L.v.s1, L.v.s4, Nat.zero_le _, Nat.zero_le _, L.v.st, (fun _ h => by cases h), (fun _ h => by cases h)⟩
  refine zT (zA (zC (zB ?_)))
  refine sq rfl rfl hn rfl (zf rfl rfl Tryz.underlying33 rfl sz33 rfl rfl seesF0) ?_
  refine stepW (zg 7 rfl rfl rfl (nb hn rfl) zr33 rfl rfl) fun b7 => ?_
  refine stepW (zh rfl rfl rfl rfl rfl rfl (id := 7) rfl sz33 rfl (Nat.le_of_ble_eq_true rfl) rfl trivial) fun _ => ?_
  refine zE (zA (zC (zB ?_)))
  refine sq rfl rfl hn rfl (zO rfl rfl Tryz.underlying33 rfl sz26 rfl) ?_
  refine sq rfl rfl hn rfl (zO rfl rfl Tryz.underlying26 rfl sz3 rfl) ?_
  refine sq rfl rfl hn rfl (zV rfl rfl Tryz.underlying3 rfl seesF0) ?_
  refine sq rfl rfl hn rfl (zO rfl rfl Tryz.underlying33 rfl sz26 rfl) ?_
  refine sq rfl rfl hn rfl (zO rfl rfl Tryz.underlying26 rfl sz22 rfl) ?_
  refine sq rfl rfl hn rfl (zV rfl rfl Tryz.underlying22 rfl seesF0) ?_
  refine sq rfl rfl hn rfl (zG rfl rfl) ?_
  refine sq rfl rfl hn rfl (zG rfl rfl) ?_
  refine stepW (s_callE (Happened8_eff hN.1 v0 hw5 hu5) rfl rfl rfl (nb hn rfl) (.d rfl) rfl (.refl _) trivial (fun _ => rfl) (fun _ _ => trivial)) fun ⟨⟨rx, ts⟩, hx1, hx2, hx3, hx4, hx5⟩ => ?_
  dsimp only at hx1 hx2 hx3 hx4
  have vb := zBQ hx3
  have hlt : ts.length = rx.entries.length := by obtain ⟨ds, T⟩ := hx4; exact yi T.dated
  obtain ⟨hpl, hdo⟩ := bare_truth hx3 hx4
  have hout := zAo vb ts
  obtain ⟨rp, hrp⟩ : ∃ rp, refPlay (bare8 rx) ts = rp := ⟨_, rfl⟩
  have hdo : rp.1 ∈ allDays (bare8 rx) := by rw [← hrp]; exact hdo
  rw [hrp] at hpl hout
  have hs4 := hx3.s4; have he6 := hx3.e6
  refine sq rfl rfl hn rfl (zG rfl rfl) ?_
  refine sq rfl rfl hn rfl (zY rfl rfl rfl) ?_
  refine sq rfl rfl hn rfl (zY rfl rfl rfl) ?_
  refine stepW (zg 8 rfl rfl rfl (nb hn rfl) zr26 rfl rfl) fun b8 => ?_
  refine stepW (zh rfl rfl rfl rfl rfl rfl (id := 8) rfl sz26 rfl (Nat.le_of_ble_eq_true rfl) rfl trivial) fun _ => ?_
  refine sq rfl rfl hn rfl (zF rfl rfl) ?_
  refine zE (zA (zC (zB ?_)))
  refine sq rfl rfl hn rfl (zH rfl rfl Tryz.underlying26 rfl sz24) ?_
  refine stepW (s_store1 rfl rfl rfl rfl rfl rfl (id := 8) rfl sz24 (Nat.le_of_ble_eq_true rfl) rfl trivial) fun _ => ?_
  refine zE (zA (zC ?_))
  refine zw (gh_emptycell (id := 8) (k := 3) 3 rfl rfl) ?_
  refine zB ?_
  refine sq rfl rfl hn rfl (za rfl rfl (id := 8) rfl Tryz.underlying26 rfl sz26 rfl rfl sees0) ?_
  refine sq rfl rfl hn rfl (zH rfl rfl Tryz.underlying33 rfl sz26) ?_
  refine stepW (zh rfl rfl rfl rfl rfl rfl (id := 7) rfl sz26 rfl (Nat.le_of_ble_eq_true rfl) rfl trivial) fun _ => ?_
  refine zE (zA (zC (zB ?_)))
  refine sq rfl rfl hn rfl (za rfl rfl (id := 8) rfl Tryz.underlying26 rfl sz26 rfl rfl sees0) ?_
  refine sq rfl rfl hn rfl (zG rfl rfl) ?_
  refine stepW (s_call [] (fun _ => hrp ▸ zBa (bare8 rx) ts vb hlt) rfl (zJ rfl) rfl (nb hn rfl) (fun _ => trivial) rfl rfl (.refl _)) fun _ => ?_
  refine sq rfl rfl hn rfl (zG rfl rfl) ?_
  refine sq rfl rfl hn rfl (zY rfl rfl rfl) ?_
  refine sq rfl rfl hn rfl (zY rfl rfl rfl) ?_
  refine stepW (zg 10 rfl rfl rfl (nb hn rfl) zr99 (zerosT 200) (by kernel_rfl)) fun b10 => ?_
  refine stepW (zh rfl rfl rfl rfl rfl rfl (id := 10) rfl sz99 (y4 hout) (Nat.le_of_ble_eq_true rfl) (kY (by simp)) trivial) fun _ => ?_
  refine sq rfl rfl hn rfl (zF rfl rfl) ?_
  refine zE (zA (zC (zC ?_)))
  refine zw (zp (t := 7) 7 rfl (nb hn rfl) rfl rfl trivial) ?_
  refine zw (zp (t := 8) 8 rfl (nb hn rfl) rfl rfl trivial) ?_
  refine zB ?_
  refine sq rfl rfl hn rfl (zG rfl rfl) ?_
  refine sq rfl rfl hn rfl (yE rfl rfl) ?_
  refine sq rfl rfl hn rfl (zG rfl rfl) ?_
  refine stepG [] (zD rfl rfl rfl) rfl (nb hn rfl) (fun hc => trivial) (fun hc => zf rfl rfl Tryz.underlying33 rfl sz33 rfl rfl seesF0) ?_
  refine stepW (s_call [(58, _)] (fun hc => zDt (truL l rx)) rfl (zD rfl rfl rfl) rfl (nb hn rfl) (fun hc => ⟨⟨_, rfl, hc⟩, trivial⟩) rfl rfl (.refl _)) fun _ => ?_
  refine stepG [(59, _)] (zD rfl rfl rfl) rfl (nb hn rfl) (fun hc => ⟨⟨_, rfl, hc⟩, trivial⟩) (fun hc => yR rfl rfl rfl) ?_
  refine sq rfl rfl hn rfl (q_or rfl rfl rfl (by intro hB; first | (rw [hB]; rfl) | (rw [hB, hc]; rfl) | simp_all)) ?_
  refine zE (zA ?_)
  refine zQ rfl (fun hb1 => ?_) (fun hb1 => ?_)
  ·
   refine zC (zB ?_)
   refine stepW (s_call [] (fun _ => zDH) rfl (zJ rfl) rfl (nb hn rfl) (fun _ => trivial) rfl rfl (.refl _)) fun _ => ?_
   refine sq rfl rfl hn rfl (zF rfl rfl) ?_
   refine zE (zA (zP (zM ?_)))
   refine zj (zm (.inl rfl) hl rfl (.tmp rfl)) ?_
   rfl
  ·
   have hc2 : checkL (truL l rx) = 0 := bad_or hb1
   have L2 := zAE hc2
   have hday : l.day = ((dayN l : Nat) : Int) := L2.dN.1
   have hN9 : dayN l ≤ 9 := L2.dN.2
   refine zT (zA (zC (zB ?_)))
   refine sq rfl rfl hn rfl (zO rfl rfl Tryz.underlying26 rfl sz3 rfl) ?_
   refine sq rfl rfl hn rfl (zV rfl rfl Tryz.underlying3 rfl seesF0) ?_
   refine stepW (kz (n := houN l) 1091 rfl rfl rfl (nb hn rfl) Tryz.underlying22 (show _ = some (some (.int .i64 0), 1, 8) from by kernel_rfl) rfl rfl rfl (by decide) rfl rfl hx1 hx1 (by omega) (by omega) (by omega)) fun b65 => ?_
   refine sq rfl rfl hn rfl (zF rfl rfl) ?_
   refine zE (zA (zC (zC (zB ?_))))
   refine sq rfl rfl hn rfl (zF rfl rfl) ?_
   refine zE (zA (zR ?_))
   refine awp_loop_on (ι := {x : Nat // x ≤ rx.start.length}) (fun x => (13, true, .d (.int .i64 (x.1 : Nat))) :: anys [66, 67, 68, 69, 70, 73, 74, 75, 76, 77, 78, 79, 80, 81, 82, 83, 84, 71, 72]) (fun x => [(1091, .box b65 3 (intsT (cntTo rp.1 (dayN l) (houN l) x.1)))]) (fun x => rx.start.length - x.1) ⟨0, Nat.zero_le _⟩ ⟨.inl rfl, zK _⟩ ⟨.inl (congrArg (fun z => some (Res.box b65 3 z)) ((zES _).trans (congrArg intsT zDb))), trivial⟩ ?_
   rintro ⟨i, hi⟩
   dsimp only
   refine zC (zC (zB ?_))
   refine sq rfl rfl hn rfl (zG rfl rfl) ?_
   refine sq rfl rfl hn rfl (zO rfl rfl Tryz.underlying26 rfl sz22 rfl) ?_
   refine sq rfl rfl hn rfl (zV rfl rfl Tryz.underlying22 rfl seesF0) ?_
   refine sq rfl rfl hn rfl (zu rfl rfl Tryz.underlying22) ?_
   refine sq rfl rfl hn rfl (yB rfl rfl rfl) ?_
   refine zE (zA ?_)
   refine zQ rfl (fun hb2 => ?_) (fun hb2 => ?_)
   ·
    have hil : i < rx.start.length := by (have h7 := of_decide_eq_true hb2; rw [List.length_map] at h7; omega)
    have hdb := zEJ vb hN9 hdo (s := i) hil
    obtain ⟨n, hfn⟩ : ∃ n : Nat, houseAt rp.1 (dayN l) i = (n : Int) := ⟨(houseAt rp.1 (dayN l) i).toNat, by omega⟩
    have hnH : n < houN l := by (have h9 : houseAt rp.1 (dayN l) i < rx.houses := hdb.2; omega)
    have hcl := zE3 (o := rp.1) (N := dayN l) (i := i) (a := (n : Int))
    refine zT (zA (zC (zR (zB ?_))))
    refine sq rfl rfl hn rfl (zG rfl rfl) ?_
    refine sq rfl rfl hn rfl (zO rfl rfl Tryz.underlying33 rfl sz3 rfl) ?_
    refine sq rfl rfl hn rfl (zV rfl rfl Tryz.underlying3 rfl seesF0) ?_
    refine sq rfl rfl hn rfl (zG rfl rfl) ?_
    refine sq rfl rfl hn rfl (zH rfl rfl Tryz.underlying99 rfl sz95) ?_
    refine sq rfl rfl hn rfl (q_indexA (i := dayN l) rfl rfl rfl Tryz.underlying95 sz94 hday (by omega)) ?_
    refine sq rfl rfl hn rfl (q_indexA (i := i) rfl rfl rfl Tryz.underlying94 sz3 rfl (by omega)) ?_
    refine sq rfl rfl hn rfl (zN rfl rfl (id := 10) rfl Tryz.underlying3 rfl (at0 (by show 0 + 0 + dayN l * 4 + i * 1 = dayN l * 4 + i; omega) (getD_some (by omega))) sees0) ?_
    refine sq rfl rfl hn rfl (q_indexV (i := n) rfl rfl rfl Tryz.underlying22 sz3 hfn hnH) ?_
    refine sq rfl rfl hn rfl (zN rfl rfl (id := 1091) rfl Tryz.underlying3 rfl (zDu (by rw [ye]; exact hnH)) sees0) ?_
    refine sq rfl rfl hn rfl (zq rfl rfl rfl (r := ((countAt rp.1 (dayN l) i (n : Int) : Nat) : Int) + 1) (by rw [zAH hnH]; exact i64w (by omega) rfl)) ?_
    refine sq rfl rfl hn rfl (q_indexV (i := n) rfl rfl rfl Tryz.underlying22 sz3 hfn hnH) ?_
    refine stepW (s_store1 rfl rfl rfl rfl rfl rfl (id := 1091) rfl sz3 (by show 0 + n * 1 < _; rw [zCF, ye]; omega) (zCA.trans (congrArg intsT (zDc hnH hfn))) trivial) fun _ => ?_
    refine zE (zX (zA (zB ?_)))
    refine sq rfl rfl hn rfl (zG rfl rfl) ?_
    refine sq rfl rfl hn rfl (zq rfl rfl rfl (r := ((i + 1 : Nat) : Int)) (i64w (by omega) (by omega))) ?_
    refine sq rfl rfl hn rfl (zF rfl rfl) ?_
    refine zE ?_
    exact zU ⟨i + 1, by omega⟩ ⟨.inl rfl, zK _⟩ ⟨.inl rfl, trivial⟩ (by simp only; omega) (by repeat (first | exact kr _ | refine kc rfl ?_)) (by repeat (first | exact kr _ | refine kc rfl ?_))
   ·
    obtain rfl : i = rx.start.length := by (have h7 := of_decide_eq_false hb2; rw [List.length_map] at h7; omega)
    refine zk (zI (zI (zS (zA (zC ?_)))))
    refine zw (g_freezeV (t := 12) (sz := 1) (n := houN l) (ds := ((cntTo rp.1 (dayN l) (houN l) rx.start.length).map intE).flatten) (es := (cntTo rp.1 (dayN l) (houN l) rx.start.length).map intE) 1091 rfl rfl (by rw [zBV, List.append_nil]; exact kh _) (by rw [zBO zAR, List.length_map, ye]) (by have := zAQ (k := 1) (rows := (cntTo rp.1 (dayN l) (houN l) rx.start.length).map intE) zAR; rw [List.length_map, ye] at this; exact this) (Nat.le_refl _) (by simp only [maxLen]; omega)) ?_
    have hmem : (cntTo rp.1 (dayN l) (houN l) rx.start.length) ∈ (handsR (truL l rx)) := zDh vb hx1 hdo
    have hne : (handsR (truL l rx)) ≠ [] := fun e => by rw [e] at hmem; cases hmem
    have hk := zBT hc2 hne
    have hhs := zGF hk
    have hhc := hhs _ hmem
    have hbx := best_bestX hc2 (hs_handB L2 hhc)
    have hb0 : (buyX (truL l rx)).2 = 0 := by rw [show buyX (truL l rx) = (buyR (owedI (truL l rx).dues) ((knownR (truL l rx)).1.map (boughtR (truL l rx))), 0) from if_neg (by rw [hk]; simp)]
    obtain ⟨g1, g2, g3, g4, _, _⟩ := buy_bds L2 hk hne
    have g5 := g4 _ hmem
    have h625 := zDR L2
    have hcl9 : (cntTo rp.1 (dayN l) (houN l) rx.start.length).length = houN l := ye
    have hann : allDays (bare8 rx) ≠ [] := fun e => by rw [e] at hdo; cases hdo
    refine zB ?_
    refine sq rfl rfl hn rfl (zf rfl rfl Tryz.underlying33 rfl sz33 rfl rfl seesF0) ?_
    refine stepW (s_call [] (fun _ => zCS (truL l rx) (by show rx.start.length ≤ _; omega) (by show rx.entries.length ≤ _; omega) (by show 0 ≤ _; omega) (by show l.dues.length ≤ _; omega) (by show l.lends.length ≤ _; omega)) rfl (zJ rfl) rfl (nb hn rfl) (fun _ => trivial) rfl rfl (.refl _)) fun _ => ?_
    refine stepW (s_call [] (fun _ => (by have h6 := zEm (truL l rx); rw [hk] at h6; exact h6)) rfl (zJ rfl) rfl (nb hn rfl) (fun _ => trivial) rfl rfl (.refl _)) fun _ => ?_
    refine sq rfl rfl hn rfl (zG rfl rfl) ?_
    refine sq rfl rfl hn rfl (zY rfl rfl rfl) ?_
    refine sq rfl rfl hn rfl (zY rfl rfl rfl) ?_
    refine sq rfl rfl hn rfl (zF rfl rfl) ?_
    refine sq rfl rfl hn rfl (zF rfl rfl) ?_
    refine zE (zA (zC (zB ?_)))
    refine sq rfl rfl hn rfl (zf rfl rfl Tryz.underlying33 rfl sz33 rfl rfl seesF0) ?_
    refine stepW (s_call [] (fun _ => zCS (truL l rx) (by show rx.start.length ≤ _; omega) (by show rx.entries.length ≤ _; omega) (by show 0 ≤ _; omega) (by show l.dues.length ≤ _; omega) (by show l.lends.length ≤ _; omega)) rfl (zJ rfl) rfl (nb hn rfl) (fun _ => trivial) rfl rfl (.refl _)) fun _ => ?_
    refine stepW (s_call [] (fun _ => zDr (truL l rx)) rfl (zJ rfl) rfl (nb hn rfl) (fun _ => trivial) rfl rfl (.refl _)) fun _ => ?_
    refine sq rfl rfl hn rfl (zG rfl rfl) ?_
    refine sq rfl rfl hn rfl (zY rfl rfl rfl) ?_
    refine sq rfl rfl hn rfl (zY rfl rfl rfl) ?_
    refine stepW (zg 16 rfl rfl rfl (nb hn rfl) zr62 rfl rfl) fun b16 => ?_
    refine stepW (zh rfl rfl rfl rfl rfl rfl (id := 16) rfl sz62 rfl (Nat.le_of_ble_eq_true rfl) rfl trivial) fun _ => ?_
    refine sq rfl rfl hn rfl (zF rfl rfl) ?_
    refine zE (zA (zC (zB ?_)))
    refine sq rfl rfl hn rfl (zf rfl rfl Tryz.underlying33 rfl sz33 rfl rfl seesF0) ?_
    refine stepW (s_call [] (fun _ => zCS (truL l rx) (by show rx.start.length ≤ _; omega) (by show rx.entries.length ≤ _; omega) (by show 0 ≤ _; omega) (by show l.dues.length ≤ _; omega) (by show l.lends.length ≤ _; omega)) rfl (zJ rfl) rfl (nb hn rfl) (fun _ => trivial) rfl rfl (.refl _)) fun _ => ?_
    refine sq rfl rfl hn rfl (zG rfl rfl) ?_
    refine stepW (s_call [] (fun _ => list40_ok (cntTo rp.1 (dayN l) (houN l) rx.start.length) (by omega)) rfl (zJ rfl) rfl (nb hn rfl) (fun _ => trivial) rfl rfl (.refl _)) fun _ => ?_
    refine stepW (s_call [] (fun _ => (by have h6 := zEM (truL l rx) ((cntTo rp.1 (dayN l) (houN l) rx.start.length)); rw [hbx] at h6; exact h6)) rfl (zJ rfl) rfl (nb hn rfl) (fun _ => trivial) rfl rfl (.refl _)) fun _ => ?_
    refine sq rfl rfl hn rfl (zG rfl rfl) ?_
    refine sq rfl rfl hn rfl (zY rfl rfl rfl) ?_
    refine sq rfl rfl hn rfl (zY rfl rfl rfl) ?_
    refine sq rfl rfl hn rfl (zY rfl rfl rfl) ?_
    refine sq rfl rfl hn rfl (zF rfl rfl) ?_
    refine sq rfl rfl hn rfl (zF rfl rfl) ?_
    refine sq rfl rfl hn rfl (zF rfl rfl) ?_
    refine zE (zA (zC (zC (zB ?_))))
    refine sq rfl rfl hn rfl (zG rfl rfl) ?_
    refine sq rfl rfl hn rfl (yR rfl rfl rfl) ?_
    refine sq rfl rfl hn rfl (zG rfl rfl) ?_
    refine stepG [] (zD rfl rfl rfl) rfl (nb hn rfl) (fun hc => trivial) (fun hc => zG rfl rfl) ?_
    refine stepG [(109, _)] (zD rfl rfl rfl) rfl (nb hn rfl) (fun hc => ⟨⟨_, rfl, hc⟩, trivial⟩) (fun hc => yR rfl rfl rfl) ?_
    refine sq rfl rfl hn rfl (q_or rfl rfl rfl (by intro hB; first | (rw [hB]; rfl) | (rw [hB, hc]; rfl) | simp_all)) ?_
    refine sq rfl rfl hn rfl (zG rfl rfl) ?_
    refine stepG [] (zD rfl rfl rfl) rfl (nb hn rfl) (fun hc => trivial) (fun hc => zG rfl rfl) ?_
    refine stepG [(113, _)] (zD rfl rfl rfl) rfl (nb hn rfl) (fun hc => ⟨⟨_, rfl, hc⟩, trivial⟩) (fun hc => yR rfl rfl rfl) ?_
    refine sq rfl rfl hn rfl (q_or rfl rfl rfl (by intro hB; first | (rw [hB]; rfl) | (rw [hB, hc]; rfl) | simp_all)) ?_
    refine sq rfl rfl hn rfl (zG rfl rfl) ?_
    refine stepG [] (zD rfl rfl rfl) rfl (nb hn rfl) (fun hc => trivial) (fun hc => zG rfl rfl) ?_
    refine stepG [] (zD rfl rfl rfl) rfl (nb hn rfl) (fun hc => trivial) (fun hc => zH rfl rfl Tryz.underlying62 rfl sz3) ?_
    refine stepG [(118, _)] (zD rfl rfl rfl) rfl (nb hn rfl) (fun hc => ⟨⟨_, rfl, hc⟩, trivial⟩) (fun hc => zN rfl rfl (id := 16) rfl Tryz.underlying3 rfl rfl sees0) ?_
    refine stepG [(117, _), (119, _)] (zD rfl rfl rfl) rfl (nb hn rfl) (fun hc => ⟨⟨_, rfl, hc⟩, ⟨_, rfl, hc⟩, trivial⟩) (fun hc => yB rfl rfl rfl) ?_
    refine sq rfl rfl hn rfl (q_or rfl rfl rfl (by intro hB; first | (rw [hB]; rfl) | (rw [hB, hc]; rfl) | simp_all)) ?_
    refine sq rfl rfl hn rfl (zG rfl rfl) ?_
    refine stepG [] (zD rfl rfl rfl) rfl (nb hn rfl) (fun hc => trivial) (fun hc => zG rfl rfl) ?_
    refine stepG [] (zD rfl rfl rfl) rfl (nb hn rfl) (fun hc => trivial) (fun hc => zH rfl rfl Tryz.underlying62 rfl sz3) ?_
    refine stepG [(124, _)] (zD rfl rfl rfl) rfl (nb hn rfl) (fun hc => ⟨⟨_, rfl, hc⟩, trivial⟩) (fun hc => zN rfl rfl (id := 16) rfl Tryz.underlying3 rfl rfl sees0) ?_
    refine stepG [(123, _), (125, _)] (zD rfl rfl rfl) rfl (nb hn rfl) (fun hc => ⟨⟨_, rfl, hc⟩, ⟨_, rfl, hc⟩, trivial⟩) (fun hc => yq rfl rfl rfl) ?_
    refine sq rfl rfl hn rfl (q_or rfl rfl rfl (by intro hB; first | (rw [hB]; rfl) | (rw [hB, hc]; rfl) | simp_all)) ?_
    refine sq rfl rfl hn rfl (zG rfl rfl) ?_
    refine stepG [] (zD rfl rfl rfl) rfl (nb hn rfl) (fun hc => trivial) (fun hc => zG rfl rfl) ?_
    refine stepG [(129, _)] (zD rfl rfl rfl) rfl (nb hn rfl) (fun hc => ⟨⟨_, rfl, hc⟩, trivial⟩) (fun hc => zu rfl rfl Tryz.underlying54) ?_
    refine stepG [(130, _)] (zD rfl rfl rfl) rfl (nb hn rfl) (fun hc => ⟨⟨_, rfl, hc⟩, trivial⟩) (fun hc => yq rfl rfl rfl) ?_
    refine sq rfl rfl hn rfl (q_or rfl rfl rfl (by intro hB; first | (rw [hB]; rfl) | (rw [hB, hc]; rfl) | simp_all)) ?_
    refine zE (zA ?_)
    refine zQ rfl (fun hb3 => ?_) (fun hb3 => ?_)
    ·
     rw [hb0] at hb3; simp at hb3; omega
    ·
     refine zT (zA (zC (zB ?_)))
     refine sq rfl rfl hn rfl (zF rfl rfl) ?_
     refine zE (zA (zC (zC (zB ?_))))
     refine sq rfl rfl hn rfl (zF rfl rfl) ?_
     refine zE (zA (zR ?_))
     refine awp_loop_on (ι := {x : Nat // x ≤ (handsR (truL l rx)).length}) (fun x => (21, true, .d (.bool (((handsR (truL l rx)).take x.1).any fun h => intsB h (cntTo rp.1 (dayN l) (houN l) rx.start.length)))) :: (22, true, .d (.int .i64 (x.1 : Nat))) :: anys [133, 134, 135, 136, 139, 140, 141, 142, 143, 144, 145, 146, 147, 148, 149, 150, 151, 152, 153, 154, 155, 156, 157, 158, 159, 160, 161, 162, 163, 164, 165, 166, 137, 138]) (fun x => []) (fun x => (handsR (truL l rx)).length - x.1) ⟨0, Nat.zero_le _⟩ ⟨.inl rfl, .inl rfl, zK _⟩ trivial ?_
     rintro ⟨k, hkk⟩
     dsimp only
     refine zC (zC (zB ?_))
     refine sq rfl rfl hn rfl (zG rfl rfl) ?_
     refine sq rfl rfl hn rfl (zG rfl rfl) ?_
     refine sq rfl rfl hn rfl (zu rfl rfl Tryz.underlying54) ?_
     refine sq rfl rfl hn rfl (yB rfl rfl rfl) ?_
     refine zE (zA ?_)
     refine zQ rfl (fun hb4 => ?_) (fun hb4 => ?_)
     ·
      have hkl : k < (handsR (truL l rx)).length := by (have h7 := of_decide_eq_true hb4; rw [List.length_map] at h7; omega)
      obtain ⟨h, hh⟩ := z7 hkl
      have hhm := List.mem_of_getElem? hh
      have hho := hhs h hhm
      have hhl : h.length = houN l := (hhs h hhm).1.trans (show rx.houses.toNat = houN l by rw [hx1]; rfl)
      have hsum : sumI h = (rx.start.length : Int) := hand_sum vb hx1 hN9 hhm
      refine zT (zA (zC (zR (zC (zC ?_)))))
      refine z6 (W := fun b => True) fmo ?_
      refine d1q (i := 0) rfl (by kernel_rfl) (fun _ _ _ _ h => h) rfl rfl hn rfl (zG rfl rfl) ?_
      refine d1q (i := 1) rfl (by kernel_rfl) (fun _ _ _ _ h => h) rfl rfl hn rfl (zG rfl rfl) ?_
      refine d1q (i := 2) rfl (by kernel_rfl) (fun _ _ _ _ h => h) rfl rfl hn rfl (q_index (i := k) rfl rfl rfl Tryz.underlying54 sz22 rfl (mget hh)) ?_
      refine d1q (i := 3) rfl (by kernel_rfl) (fun _ _ _ _ h => h) rfl rfl hn rfl (zV rfl rfl Tryz.underlying22 rfl seesFA) ?_
      refine d1q (i := 4) rfl (by kernel_rfl) (fun _ _ _ _ h => h) rfl rfl hn rfl (zu rfl rfl Tryz.underlying22) ?_
      refine d1q (i := 5) rfl (by kernel_rfl) (fun _ _ _ _ h => h) rfl rfl hn rfl (zO rfl rfl Tryz.underlying26 rfl sz3 rfl) ?_
      refine d1q (i := 6) rfl (by kernel_rfl) (fun _ _ _ _ h => h) rfl rfl hn rfl (zV rfl rfl Tryz.underlying3 rfl seesFA) ?_
      refine d1q (i := 7) rfl (by kernel_rfl) (fun _ _ _ _ h => h) rfl rfl hn rfl (yR rfl rfl rfl) ?_
      refine d1q (i := 8) rfl (by kernel_rfl) (fun _ _ _ _ h => h) rfl rfl hn rfl (zG rfl rfl) ?_
      refine d1g (i := 9) [] rfl (by kernel_rfl) (fun _ _ _ _ h => h) (zD rfl rfl rfl) rfl hn rfl (fun hc => trivial) (fun hc => zG rfl rfl) ?_
      refine d1g (i := 10) [] rfl (by kernel_rfl) (fun _ _ _ _ h => h) (zD rfl rfl rfl) rfl hn rfl (fun hc => trivial) (fun hc => zG rfl rfl) ?_
      refine d1g (i := 11) [(148, _), (149, _)] rfl (by kernel_rfl) (fun _ _ _ _ h => h) (zD rfl rfl rfl) rfl hn rfl (fun hc => ⟨⟨_, rfl, hc⟩, ⟨_, rfl, hc⟩, trivial⟩) (fun hc => q_index (i := k) rfl rfl rfl Tryz.underlying54 sz22 rfl (mget hh)) ?_
      refine d1g (i := 12) [(150, _)] rfl (by kernel_rfl) (fun _ _ _ _ h => h) (zD rfl rfl rfl) rfl hn rfl (fun hc => ⟨⟨_, rfl, hc⟩, trivial⟩) (fun hc => zV rfl rfl Tryz.underlying22 rfl seesFA) ?_
      refine d1g (i := 14) [] rfl (by kernel_rfl) (fun _ _ _ _ h => h) (zD rfl rfl rfl) rfl hn rfl (fun hc => trivial) (fun hc => zO rfl rfl Tryz.underlying26 rfl sz22 rfl) ?_
      refine d1g (i := 15) [(153, _)] rfl (by kernel_rfl) (fun _ _ _ _ h => h) (zD rfl rfl rfl) rfl hn rfl (fun hc => ⟨⟨_, rfl, hc⟩, trivial⟩) (fun hc => zV rfl rfl Tryz.underlying22 rfl seesFA) ?_
      refine d1g (i := 16) [(154, _)] rfl (by kernel_rfl) (fun _ _ _ _ h => h) (zD rfl rfl rfl) rfl hn rfl (fun hc => ⟨⟨_, rfl, hc⟩, trivial⟩) (fun hc => zu rfl rfl Tryz.underlying22) ?_
      refine zL ?_
      refine ze (i := 13) (by kernel_rfl) rfl (s_call [(151, _)] (fun hc => Sum_ok h (sum8_bd hho.2) (by omega)) rfl (zD rfl rfl rfl) rfl (nb hn rfl) (fun hc => ⟨⟨_, rfl, hc⟩, trivial⟩) rfl rfl (.refl _)) fun _ => ?_
      refine d2_of_d1 ?_
      refine d1g (i := 17) [(152, _), (155, _)] rfl (by kernel_rfl) (fun _ _ _ _ h => h) (zD rfl rfl rfl) rfl hn rfl (fun hc => ⟨⟨_, rfl, hc⟩, ⟨_, rfl, hc⟩, trivial⟩) (fun hc => yR rfl rfl rfl) ?_
      refine d1q (i := 18) rfl (by kernel_rfl) (fun _ _ _ _ h => h) rfl rfl hn rfl (q_or rfl rfl rfl (by intro hB; first | (rw [hB]; rfl) | (rw [hB, hc]; rfl) | simp_all)) ?_
      refine zL ?_
      refine zl (by kernel_rfl) ?_
      refine zA ?_
      refine zQ rfl (fun hb5 => ?_) (fun hb5 => ?_)
      ·
       rw [hsum, hx1, List.length_map, hhl, List.length_map] at hb5; simp at hb5
      ·
       refine zT (zA (zB ?_))
       refine sq rfl rfl hn rfl (zG rfl rfl) ?_
       refine sq rfl rfl hn rfl (zG rfl rfl) ?_
       refine stepG [] (zD rfl rfl rfl) rfl (nb hn rfl) (fun hc => trivial) (fun hc => zG rfl rfl) ?_
       refine stepG [] (zD rfl rfl rfl) rfl (nb hn rfl) (fun hc => trivial) (fun hc => zG rfl rfl) ?_
       refine stepG [(160, _), (161, _)] (zD rfl rfl rfl) rfl (nb hn rfl) (fun hc => ⟨⟨_, rfl, hc⟩, ⟨_, rfl, hc⟩, trivial⟩) (fun hc => q_index (i := k) rfl rfl rfl Tryz.underlying54 sz22 rfl (mget hh)) ?_
       refine stepG [(162, _)] (zD rfl rfl rfl) rfl (nb hn rfl) (fun hc => ⟨⟨_, rfl, hc⟩, trivial⟩) (fun hc => zV rfl rfl Tryz.underlying22 rfl seesF0) ?_
       refine stepG [] (zD rfl rfl rfl) rfl (nb hn rfl) (fun hc => trivial) (fun hc => zG rfl rfl) ?_
       refine stepW (s_call [(163, _), (164, _)] (fun hc => kV h (cntTo rp.1 (dayN l) (houN l) rx.start.length)) rfl (zD rfl rfl rfl) rfl (nb hn rfl) (fun hc => ⟨⟨_, rfl, hc⟩, ⟨_, rfl, hc⟩, trivial⟩) rfl rfl (.refl _)) fun _ => ?_
       refine sq rfl rfl hn rfl (q_or rfl rfl rfl (by intro hB; first | (rw [hB]; rfl) | (rw [hB, hc]; rfl) | simp_all)) ?_
       refine sq rfl rfl hn rfl (zF rfl rfl) ?_
       refine zE (zX (zA (zB ?_)))
       refine sq rfl rfl hn rfl (zG rfl rfl) ?_
       refine sq rfl rfl hn rfl (zq rfl rfl rfl (r := ((k + 1 : Nat) : Int)) (i64w (by omega) (by omega))) ?_
       refine sq rfl rfl hn rfl (zF rfl rfl) ?_
       refine zE ?_
       exact zU ⟨k + 1, by omega⟩ ⟨.inl (congrArg (fun z : Bool => some (true, TV.d (.bool z))) (any_snocL hh).symm), .inl rfl, zK _⟩ trivial (by simp only; omega) (by repeat (first | exact kr _ | refine kc rfl ?_)) (by repeat (first | exact kr _ | refine kc rfl ?_))
     ·
      obtain rfl : k = (handsR (truL l rx)).length := by (have h7 := of_decide_eq_false hb4; rw [List.length_map] at h7; omega)
      rw [List.take_length]
      have hany : ((handsR (truL l rx)).any fun h => intsB h (cntTo rp.1 (dayN l) (houN l) rx.start.length)) = true := List.any_eq_true.2 ⟨_, hmem, intsB_self _⟩
      refine zk (zI (zI (zS (zA (zC (zC (zB ?_)))))))
      refine sq rfl rfl hn rfl (zF rfl rfl) ?_
      refine zE (zA (zR ?_))
      refine awp_loop_on (ι := {x : Nat // x ≤ houN l}) (fun x => (23, true, .d (.int .i64 (x.1 : Nat))) :: anys [167, 168, 169, 170, 174, 175, 176, 177, 178, 179, 173, 180, 181, 24, 25, 26, 27, 28, 182, 183, 184, 185, 188, 189, 190, 191, 192, 193, 194, 195, 196, 197, 198, 199, 200, 201, 202, 203, 204, 205, 186, 187, 206, 207, 208, 209, 210, 211, 212, 213, 214, 215, 216, 217, 218, 219, 171, 172]) (fun x => gones [24]) (fun x => houN l - x.1) ⟨0, Nat.zero_le _⟩ ⟨.inl rfl, zK _⟩ (zW _) ?_
      rintro ⟨a, ha⟩
      dsimp only
      refine zC (zC (zB ?_))
      refine sq rfl rfl hn rfl (zG rfl rfl) ?_
      refine sq rfl rfl hn rfl (zO rfl rfl Tryz.underlying26 rfl sz3 rfl) ?_
      refine sq rfl rfl hn rfl (zV rfl rfl Tryz.underlying3 rfl seesF0) ?_
      refine sq rfl rfl hn rfl (yB rfl rfl rfl) ?_
      refine zE (zA ?_)
      refine zQ rfl (fun hb6 => ?_) (fun hb6 => ?_)
      ·
       have hal : a < houN l := by (have h7 := of_decide_eq_true hb6; omega)
       refine zT (zA (zC (zR (zC ?_))))
       refine yK (e := .normal) (ι := AskX (bare8 rx) (houseB (bare8 rx) (a : Nat)) l.day × Nat) (fun x => (24, true, .val (.pointer (some ⟨x.2, 0, none⟩))) :: (25, true, .d (.int .i64 x.1.1.2)) :: anys [174, 175, 176, 177, 178, 179, 173, 180, 181]) (fun x => [(24, .box x.2 37 [.d (.int .i64 (heldR (bare8 rx) (a : Nat) x.1.1.1).1), .d (.int .i64 (heldR (bare8 rx) (a : Nat) x.1.1.1).2)])]) (fun hJ7 => ?_) ?_
       ·
        refine z6 (W := fun b => True) fmo ?_
        refine d1q (i := 0) rfl (by kernel_rfl) (fun _ _ _ _ h => h) rfl rfl hn rfl (zf rfl rfl Tryz.underlying26 rfl sz26 rfl rfl seesFA) ?_
        refine d1q (i := 2) rfl (by kernel_rfl) (fun _ _ _ _ h => h) rfl rfl hn rfl (zG rfl rfl) ?_
        refine d1q (i := 3) rfl (by kernel_rfl) (fun _ _ _ _ h => h) rfl rfl hn rfl (zO rfl rfl Tryz.underlying33 rfl sz3 rfl) ?_
        refine d1q (i := 4) rfl (by kernel_rfl) (fun _ _ _ _ h => h) rfl rfl hn rfl (zV rfl rfl Tryz.underlying3 rfl seesFA) ?_
        refine zL ?_
        refine yW 1 [9] (by kernel_rfl) ⟨?_, ?_, trivial⟩
        ·
         refine br rfl (s_call [] (fun _ => k9 (bare8 rx) (by show rx.start.length ≤ _; omega) (by show rx.entries.length ≤ _; omega) (by show 0 ≤ _; omega)) rfl (zJ rfl) rfl (nb hn rfl) (fun _ => trivial) rfl rfl (.refl _)) fun _ => ?_
         refine d2_of_d1 (zL ?_)
         refine yW 5 [9] (by kernel_rfl) ⟨?_, ?_, trivial⟩
         ·
          refine br rfl (s_callE (zBY (bare8 rx) (a : Nat) l.day) rfl rfl rfl (nb hn rfl) (.d rfl) rfl (.refl _) trivial (fun _ => rfl) (fun _ _ => trivial)) fun x6 => ?_
          refine d2_of_d1 ?_
          refine d1q (i := 6) rfl (by kernel_rfl) (fun _ _ _ _ h => h) rfl rfl hn rfl (zG rfl rfl) ?_
          refine d1q (i := 7) rfl (by kernel_rfl) (fun _ _ _ _ h => h) rfl rfl hn rfl (zY rfl rfl rfl) ?_
          refine d1q (i := 8) rfl (by kernel_rfl) (fun _ _ _ _ h => h) rfl rfl hn rfl (zY rfl rfl rfl) ?_
          refine zL ?_
          refine ze (i := 9) (by kernel_rfl) rfl (zg 24 rfl rfl rfl (nb hn rfl) zr37 rfl rfl) fun b24 => ?_
          refine d2_of_d1 (zL ?_)
          refine ze (i := 10) (by kernel_rfl) rfl (zh rfl rfl rfl rfl rfl rfl (id := 24) rfl sz37 rfl (Nat.le_of_ble_eq_true rfl) rfl trivial) fun _ => ?_
          refine d2_of_d1 ?_
          refine d1q (i := 11) rfl (by kernel_rfl) (fun _ _ _ _ h => h) rfl rfl hn rfl (zF rfl rfl) ?_
          refine zL ?_
          refine zl (by kernel_rfl) ?_
          exact aend_join_on hJ7 (x6, b24) ⟨.inl rfl, .inl rfl, zK _⟩ ⟨.inl rfl, trivial⟩ (by repeat (first | exact kr _ | refine kc rfl ?_)) (by repeat (first | exact kr _ | refine kc rfl ?_))
         ·
          refine br rfl (zg 24 rfl rfl rfl (nb hn rfl) zr37 rfl rfl) fun b24 => ?_
          refine d2_of_d1 (zL ?_)
          refine ze (i := 5) (by kernel_rfl) rfl (s_callE (zBY (bare8 rx) (a : Nat) l.day) rfl rfl rfl (nb hn rfl) (.d rfl) rfl (.refl _) trivial (fun _ => rfl) (fun _ _ => trivial)) fun x6 => ?_
          refine d2_of_d1 ?_
          refine d1q (i := 6) rfl (by kernel_rfl) (fun _ _ _ _ h => h) rfl rfl hn rfl (zG rfl rfl) ?_
          refine d1q (i := 7) rfl (by kernel_rfl) (fun _ _ _ _ h => h) rfl rfl hn rfl (zY rfl rfl rfl) ?_
          refine d1q (i := 8) rfl (by kernel_rfl) (fun _ _ _ _ h => h) rfl rfl hn rfl (zY rfl rfl rfl) ?_
          refine zL ?_
          refine ze (i := 10) (by kernel_rfl) rfl (zh rfl rfl rfl rfl rfl rfl (id := 24) rfl sz37 rfl (Nat.le_of_ble_eq_true rfl) rfl trivial) fun _ => ?_
          refine d2_of_d1 ?_
          refine d1q (i := 11) rfl (by kernel_rfl) (fun _ _ _ _ h => h) rfl rfl hn rfl (zF rfl rfl) ?_
          refine zL ?_
          refine zl (by kernel_rfl) ?_
          exact aend_join_on hJ7 (x6, b24) ⟨.inl rfl, .inl rfl, zK _⟩ ⟨.inl rfl, trivial⟩ (by repeat (first | exact kr _ | refine kc rfl ?_)) (by repeat (first | exact kr _ | refine kc rfl ?_))
        ·
         refine br rfl (zg 24 rfl rfl rfl (nb hn rfl) zr37 rfl rfl) fun b24 => ?_
         refine d2_of_d1 (zL ?_)
         refine ze (i := 1) (by kernel_rfl) rfl (s_call [] (fun _ => k9 (bare8 rx) (by show rx.start.length ≤ _; omega) (by show rx.entries.length ≤ _; omega) (by show 0 ≤ _; omega)) rfl (zJ rfl) rfl (nb hn rfl) (fun _ => trivial) rfl rfl (.refl _)) fun _ => ?_
         refine d2_of_d1 (zL ?_)
         refine ze (i := 5) (by kernel_rfl) rfl (s_callE (zBY (bare8 rx) (a : Nat) l.day) rfl rfl rfl (nb hn rfl) (.d rfl) rfl (.refl _) trivial (fun _ => rfl) (fun _ _ => trivial)) fun x6 => ?_
         refine d2_of_d1 ?_
         refine d1q (i := 6) rfl (by kernel_rfl) (fun _ _ _ _ h => h) rfl rfl hn rfl (zG rfl rfl) ?_
         refine d1q (i := 7) rfl (by kernel_rfl) (fun _ _ _ _ h => h) rfl rfl hn rfl (zY rfl rfl rfl) ?_
         refine d1q (i := 8) rfl (by kernel_rfl) (fun _ _ _ _ h => h) rfl rfl hn rfl (zY rfl rfl rfl) ?_
         refine zL ?_
         refine ze (i := 10) (by kernel_rfl) rfl (zh rfl rfl rfl rfl rfl rfl (id := 24) rfl sz37 rfl (Nat.le_of_ble_eq_true rfl) rfl trivial) fun _ => ?_
         refine d2_of_d1 ?_
         refine d1q (i := 11) rfl (by kernel_rfl) (fun _ _ _ _ h => h) rfl rfl hn rfl (zF rfl rfl) ?_
         refine zL ?_
         refine zl (by kernel_rfl) ?_
         exact aend_join_on hJ7 (x6, b24) ⟨.inl rfl, .inl rfl, zK _⟩ ⟨.inl rfl, trivial⟩ (by repeat (first | exact kr _ | refine kc rfl ?_)) (by repeat (first | exact kr _ | refine kc rfl ?_))
       ·
        rintro ⟨x6, b24⟩
        dsimp only
        refine zA (zC ?_)
        have his : houseB (bare8 rx) ((a : Nat) : Int) = true := by (have h4 : rx.houses ≤ 4 := hx3.h4; have h1 : 1 ≤ rx.houses := hx3.h1; rw [yP (r := bare8 rx) h1 h4, decide_eq_true (by omega), decide_eq_true (show ((a : Nat) : Int) ≤ rx.houses - 1 by omega)]; rfl)
        have hap : AskP (bare8 rx) (houseB (bare8 rx) (a : Nat)) ((dayN l : Nat) : Int) x6.1.1 x6.1.2 := by rw [← hday]; exact x6.2
        obtain ⟨hev, her⟩ := ask8_ok vb his hN9 hap
        rw [if_neg hann] at her
        have hheld := held_eq (a := ((a : Nat) : Int)) vb hN9 (fun e => hann ((zC3 vb hN9 hev).1 e)) hev
        have hrng := rng_all (a := a) vb hx1 hN9 hal hann
        refine zB ?_
        refine sq rfl rfl hn rfl (zF rfl rfl) ?_
        refine sq rfl rfl hn rfl (zF rfl rfl) ?_
        refine zE (zA (zC (zC (zB ?_))))
        refine sq rfl rfl hn rfl (zF rfl rfl) ?_
        refine zE (zA (zR ?_))
        refine awp_loop_on (ι := {x : Nat // x ≤ (handsR (truL l rx)).length}) (fun x => (26, true, .d (.int .i64 (rngTo (handsR (truL l rx)) a x.1).1)) :: (27, true, .d (.int .i64 (rngTo (handsR (truL l rx)) a x.1).2)) :: (28, true, .d (.int .i64 (x.1 : Nat))) :: anys [182, 183, 184, 185, 188, 189, 190, 191, 192, 193, 194, 195, 196, 197, 198, 199, 200, 201, 202, 203, 204, 205, 186, 187]) (fun x => []) (fun x => (handsR (truL l rx)).length - x.1) ⟨0, Nat.zero_le _⟩ ⟨.inl rfl, .inl rfl, .inl rfl, zK _⟩ trivial ?_
        rintro ⟨k, hkk⟩
        dsimp only
        refine zC (zC (zB ?_))
        refine sq rfl rfl hn rfl (zG rfl rfl) ?_
        refine sq rfl rfl hn rfl (zG rfl rfl) ?_
        refine sq rfl rfl hn rfl (zu rfl rfl Tryz.underlying54) ?_
        refine sq rfl rfl hn rfl (yB rfl rfl rfl) ?_
        refine zE (zA ?_)
        refine zQ rfl (fun hb8 => ?_) (fun hb8 => ?_)
        ·
         have hkl : k < (handsR (truL l rx)).length := by (have h7 := of_decide_eq_true hb8; rw [List.length_map] at h7; omega)
         obtain ⟨h, hh⟩ := z7 hkl
         have hhl : h.length = houN l := (hhs h (List.mem_of_getElem? hh)).1.trans (show rx.houses.toNat = houN l by rw [hx1]; rfl)
         obtain ⟨z, hz⟩ := z7 (show a < h.length by omega)
         have hgz : h.getD a 0 = z := by rw [List.getD_eq_getElem?_getD, hz]; rfl
         refine zT (zA (zC (zR ?_)))
         refine z6 (W := fun b => True) fmo ?_
         refine d1q (i := 0) rfl (by kernel_rfl) (fun _ _ _ _ h => h) rfl rfl hn rfl (zG rfl rfl) ?_
         refine d1q (i := 1) rfl (by kernel_rfl) (fun _ _ _ _ h => h) rfl rfl hn rfl (zG rfl rfl) ?_
         refine d1q (i := 2) rfl (by kernel_rfl) (fun _ _ _ _ h => h) rfl rfl hn rfl (zG rfl rfl) ?_
         refine d1q (i := 3) rfl (by kernel_rfl) (fun _ _ _ _ h => h) rfl rfl hn rfl (q_index (i := k) rfl rfl rfl Tryz.underlying54 sz22 rfl (mget hh)) ?_
         refine d1q (i := 4) rfl (by kernel_rfl) (fun _ _ _ _ h => h) rfl rfl hn rfl (zV rfl rfl Tryz.underlying22 rfl seesFA) ?_
         refine d1q (i := 5) rfl (by kernel_rfl) (fun _ _ _ _ h => h) rfl rfl hn rfl (zG rfl rfl) ?_
         refine d1q (i := 6) rfl (by kernel_rfl) (fun _ _ _ _ h => h) rfl rfl hn rfl (q_index (i := a) rfl rfl rfl Tryz.underlying22 sz3 rfl (mget hz)) ?_
         refine d1q (i := 7) rfl (by kernel_rfl) (fun _ _ _ _ h => h) rfl rfl hn rfl (zV rfl rfl Tryz.underlying3 rfl seesFA) ?_
         refine d1q (i := 8) rfl (by kernel_rfl) (fun _ _ _ _ h => h) rfl rfl hn rfl (zGG rfl rfl rfl) ?_
         refine d1q (i := 9) rfl (by kernel_rfl) (fun _ _ _ _ h => h) rfl rfl hn rfl (zG rfl rfl) ?_
         refine d1q (i := 10) rfl (by kernel_rfl) (fun _ _ _ _ h => h) rfl rfl hn rfl (zG rfl rfl) ?_
         refine d1q (i := 11) rfl (by kernel_rfl) (fun _ _ _ _ h => h) rfl rfl hn rfl (zG rfl rfl) ?_
         refine d1q (i := 12) rfl (by kernel_rfl) (fun _ _ _ _ h => h) rfl rfl hn rfl (q_index (i := k) rfl rfl rfl Tryz.underlying54 sz22 rfl (mget hh)) ?_
         refine d1q (i := 13) rfl (by kernel_rfl) (fun _ _ _ _ h => h) rfl rfl hn rfl (zV rfl rfl Tryz.underlying22 rfl seesFA) ?_
         refine d1q (i := 14) rfl (by kernel_rfl) (fun _ _ _ _ h => h) rfl rfl hn rfl (zG rfl rfl) ?_
         refine d1q (i := 15) rfl (by kernel_rfl) (fun _ _ _ _ h => h) rfl rfl hn rfl (q_index (i := a) rfl rfl rfl Tryz.underlying22 sz3 rfl (mget hz)) ?_
         refine d1q (i := 16) rfl (by kernel_rfl) (fun _ _ _ _ h => h) rfl rfl hn rfl (zV rfl rfl Tryz.underlying3 rfl seesFA) ?_
         refine d1q (i := 17) rfl (by kernel_rfl) (fun _ _ _ _ h => h) rfl rfl hn rfl (zCl rfl rfl rfl) ?_
         refine d1q (i := 18) rfl (by kernel_rfl) (fun _ _ _ _ h => h) rfl rfl hn rfl (zF rfl rfl) ?_
         refine d1q (i := 19) rfl (by kernel_rfl) (fun _ _ _ _ h => h) rfl rfl hn rfl (zF rfl rfl) ?_
         refine zL ?_
         refine zl (by kernel_rfl) ?_
         refine zX (zA (zB ?_))
         refine sq rfl rfl hn rfl (zG rfl rfl) ?_
         refine sq rfl rfl hn rfl (zq rfl rfl rfl (r := ((k + 1 : Nat) : Int)) (i64w (by omega) (by omega))) ?_
         refine sq rfl rfl hn rfl (zF rfl rfl) ?_
         refine zE ?_
         exact zU ⟨k + 1, by omega⟩ ⟨.inl (congrArg (fun z : Int => some (true, TV.d (.int .i64 z))) (show _ = (rngTo (handsR (truL l rx)) a (k + 1)).1 by rw [zCz hh, hgz])), .inl (congrArg (fun z : Int => some (true, TV.d (.int .i64 z))) (show _ = (rngTo (handsR (truL l rx)) a (k + 1)).2 by rw [zCz hh, hgz])), .inl rfl, zK _⟩ trivial (by simp only; omega) (by repeat (first | exact kr _ | refine kc rfl ?_)) (by repeat (first | exact kr _ | refine kc rfl ?_))
        ·
         obtain rfl : k = (handsR (truL l rx)).length := by (have h7 := of_decide_eq_false hb8; rw [List.length_map] at h7; omega)
         refine zk (zI (zI (zS (zA (zC (zB ?_))))))
         refine sq rfl rfl hn rfl (zG rfl rfl) ?_
         refine sq rfl rfl hn rfl (yR rfl rfl rfl) ?_
         refine sq rfl rfl hn rfl (zG rfl rfl) ?_
         refine stepG [] (zD rfl rfl rfl) rfl (nb hn rfl) (fun hc => trivial) (fun hc => zH rfl rfl Tryz.underlying37 rfl sz3) ?_
         refine stepG [(209, _)] (zD rfl rfl rfl) rfl (nb hn rfl) (fun hc => ⟨⟨_, rfl, hc⟩, trivial⟩) (fun hc => zN rfl rfl (id := 24) rfl Tryz.underlying3 rfl rfl sees0) ?_
         refine stepG [] (zD rfl rfl rfl) rfl (nb hn rfl) (fun hc => trivial) (fun hc => zG rfl rfl) ?_
         refine stepG [(210, _), (211, _)] (zD rfl rfl rfl) rfl (nb hn rfl) (fun hc => ⟨⟨_, rfl, hc⟩, ⟨_, rfl, hc⟩, trivial⟩) (fun hc => yR rfl rfl rfl) ?_
         refine sq rfl rfl hn rfl (q_or rfl rfl rfl (by intro hB; first | (rw [hB]; rfl) | (rw [hB, hc]; rfl) | simp_all)) ?_
         refine sq rfl rfl hn rfl (zG rfl rfl) ?_
         refine stepG [] (zD rfl rfl rfl) rfl (nb hn rfl) (fun hc => trivial) (fun hc => zH rfl rfl Tryz.underlying37 rfl sz3) ?_
         refine stepG [(215, _)] (zD rfl rfl rfl) rfl (nb hn rfl) (fun hc => ⟨⟨_, rfl, hc⟩, trivial⟩) (fun hc => zN rfl rfl (id := 24) rfl Tryz.underlying3 rfl rfl sees0) ?_
         refine stepG [] (zD rfl rfl rfl) rfl (nb hn rfl) (fun hc => trivial) (fun hc => zG rfl rfl) ?_
         refine stepG [(216, _), (217, _)] (zD rfl rfl rfl) rfl (nb hn rfl) (fun hc => ⟨⟨_, rfl, hc⟩, ⟨_, rfl, hc⟩, trivial⟩) (fun hc => yR rfl rfl rfl) ?_
         refine sq rfl rfl hn rfl (q_or rfl rfl rfl (by intro hB; first | (rw [hB]; rfl) | (rw [hB, hc]; rfl) | simp_all)) ?_
         refine zE (zA ?_)
         refine zQ rfl (fun hb9 => ?_) (fun hb9 => ?_)
         ·
          rw [her, hheld, show rngTo (handsR (truL l rx)) a (handsR (truL l rx)).length = _ from hrng] at hb9; simp at hb9
         ·
          refine zT (zX (zA (zB ?_)))
          refine sq rfl rfl hn rfl (zG rfl rfl) ?_
          refine sq rfl rfl hn rfl (zq rfl rfl rfl (r := ((a + 1 : Nat) : Int)) (i64w (by omega) (by omega))) ?_
          refine sq rfl rfl hn rfl (zF rfl rfl) ?_
          refine zE ?_
          exact zU ⟨a + 1, by omega⟩ ⟨.inl rfl, zK _⟩ (zW _) (by simp only; omega) (by repeat (first | exact kr _ | refine kc rfl ?_)) (by repeat (first | exact kr _ | refine kc rfl ?_))
      ·
       obtain rfl : a = houN l := by (have h7 := of_decide_eq_false hb6; omega)
       refine zk (zI (zI (zS (zA (zC (zB ?_))))))
       refine sq rfl rfl hn rfl (zG rfl rfl) ?_
       refine sq rfl rfl hn rfl (zG rfl rfl) ?_
       refine stepW (s_call [] (fun hc => zDH) rfl (zD rfl rfl rfl) rfl (nb hn rfl) (fun hc => trivial) rfl rfl (.refl _)) fun _ => ?_
       refine sq rfl rfl hn rfl (yC rfl rfl rfl (by intro hB; first | (rw [hB]; rfl) | (rw [hB, hc]; rfl) | simp_all)) ?_
       refine sq rfl rfl hn rfl (zF rfl rfl) ?_
       refine zE (zA (zP ?_))
       refine zj (zm (.inl rfl) hl rfl (.tmp rfl)) ?_
       rw [hany]; rfl
end Go.Proofs.YtaokpncjemkhcaaGreat
namespace Go.Proofs.YtaokpncjemkhcaaGreat
open Go.ChangeShapes Go.WideShapes Go.ChangeAt Go.RowKit
set_option linter.all false
theorem ShortTruth_pure (xs : List D) (h : Sat [SLdg, SU16s, SU8] xs) : PureAt Tryz.prog 15 xs (.bool true) := by
  obtain ⟨_, _, rfl, ⟨a1, rfl⟩, _, _, rfl, ⟨a2, rfl, h2⟩, _, _, rfl, ⟨a3, rfl, h3⟩, rfl⟩ := h
  exact ShortTruth_ok a1 a2 h2.1 a3 h3
set_option maxRecDepth 100000 in
theorem shortTruth_lifted (os : Os) (started : os.Started) (H : Type) (enc : TypeId × Value → H) :
    ReturnsInHanded {} Tryz.checked os 15 .any (Rows.shortTruthSpec.pre6 enc Tryz.prog Tryz.f15 Rows.shortTruthRow.domain false) (Rows.shortTruthSpec.post enc Tryz.prog Tryz.f15 false true false false) := by
  refine returnsInHanded_of_change_sized (C := Tryz.checked) own started (by kernel_rfl) Tryz.func15
    (ChangeSpec.witness6 (enc := enc) (C := Tryz.checked) false ⟨#[], #[.agg #[.int .i64 0, .slice none 0 0, .slice none 0 0, .slice none 0 0, .int .i64 0, .slice none 0 0, .slice none 0 0], .slice none 0 0, .int .u8 0], []⟩ 8 (by kernel_rfl) (by kernel_rfl) (by kernel_rfl) (by kernel_rfl)) ?_
  intro W base args ds gs before hval hW _ hz _
  exact law_contract (ts := [33, 71, 5]) (Ss := [SLdg, SU16s, SU8]) laidOut (by rw [Tryz.params15]) (by kernel_rfl) (by kernel_rfl) Tryz.underlying4 rfl rfl
    (fun ds h => by match ds, h with | [d1, d2, d3], _ => rfl) ⟨pLdg, pU16s, pU8, trivial⟩ ShortTruth_pure W base args ds gs before hval hW hz (fun g hg => by cases hg)
theorem shortTruth_holds : Rows.ShortTruthSaid :=
  OpenClaim.holds_of_wide 15 Tryz.f15 rfl rfl rfl rfl rfl rfl rfl ⟨rfl, rfl, rfl, rfl, rfl⟩ rfl rfl rfl rfl rfl (by kernel_rfl) Tryz.func15 (by kernel_rfl)
    (of_decide_eq_true (by kernel_rfl)) (by unfold Func.isWrapper; first | (rw [if_pos (by decide +kernel)]; kernel_rfl) | (rw [if_neg (by decide +kernel)]; exact ⟨rfl, rfl⟩))
    (fun os started H enc _ => shortTruth_lifted os started H enc)
end Go.Proofs.YtaokpncjemkhcaaGreat
