/-
  A part of the proof that contangolaw.ShortTruth returns true: what the last text needs, and no more. No condition: no statement of the seat is proved here.
-/
import Derived.Carry
import Derived.ProofKit
import Derived.OpenShut
import Derived.Deep.Slices
import Derived.JoinedOf
import Derived.JoinedAt
import Derived.SizedLaws
import Derived.Test.YtaokpncjemkhcaaGreatShortTruthD
namespace Go.Proofs.YtaokpncjemkhcaaGreat
open Go.ChangeShapes Go.WideShapes Go.ChangeAt Go.RowKit
set_option linter.all false
/-- All cells that there are. -/
def live (w : World) (b o : Nat) : Prop := ∃ v, w.cell? ⟨b, o, none⟩ = some v
/-- Cells of a type are read as plain data of a form. -/
def Opens (P : Program) (t : TypeId) (S : List D → Prop) : Prop :=
  ∀ {H : Type} (enc : TypeId × Value → H) (w : World) (base : Nat) (spare : Nat → Bool) (held : Bool) (fuel : Nat) (cs : List Value) (x : DataW H × List MemPlace),
    DataW.trod enc P w base spare held fuel t cs = some x → (x.1.weights P t).all (· ≤ reachBytes) = true → ∃ ds, S ds ∧ RepVals (live w) w ds cs ∧ ∀ v ∈ cs, v.oneCell' = true
theorem zB9 {P : Program} {t : TypeId} {k : IntKind} (ht : P.underlying t = some (.int k)) : Opens P t fun ds => ∃ n, ds = [.int k n] ∧ (Lit.int k n).wf = true := by
  intro H enc w base spare held fuel cs x h hz
  obtain ⟨n, rfl, _, hw⟩ := DataW.trod_int ht h
  exact ⟨_, ⟨n, rfl, hw⟩, ⟨_, _, rfl, rfl, rfl⟩, fun v hv => by simp at hv; subst hv; rfl⟩
theorem opens_bool {P : Program} {t : TypeId} (ht : P.underlying t = some .bool) : Opens P t fun ds => ∃ b, ds = [.bool b] := by
  intro H enc w base spare held fuel cs x h hz
  obtain ⟨b, rfl, _⟩ := DataW.trod_bool ht h
  exact ⟨_, ⟨b, rfl⟩, ⟨_, _, rfl, rfl, rfl⟩, fun v hv => by simp at hv; subst hv; rfl⟩
theorem zD9 {w : World} {a : Addr} {v : Value} (h : w.cell? a = some v) : a = ⟨a.block, a.off, none⟩ := by
  obtain ⟨b, o, s⟩ := a
  cases s with
  | none => rfl
  | some q =>
    simp only [World.cell?] at h
    split at h
    · simp at h
    · cases h
theorem cells_rep {w : World} {base : Nat} {a : Addr} {n b o : Nat} {cs : List Value} {ds : List D} (ha : a = ⟨b, o, none⟩) (h : w.cells? base a n = some cs) (hr : RepVals (live w) w ds cs) (h1 : ∀ v ∈ cs, v.oneCell' = true) : RepCells (live w) w ds b o := by
  obtain ⟨_, hlen, hc⟩ := World.cells?_some h
  refine RepCells.of_vals hr h1 fun j v hj => ?_
  have hjl := (List.getElem?_eq_some_iff.1 hj).1
  have := hc j (by omega)
  rw [hj, ha] at this
  have e : (⟨b, o, none⟩ : Addr).add j = ⟨b, o + j, none⟩ := by
    unfold Addr.add
    split
    · subst_vars; rfl
    · rfl
  rw [e] at this
  exact ⟨this, v, this⟩
theorem zEk {w : World} {sz b : Nat} : ∀ {n o : Nat} {F : Nat → List D}, (∀ i, i < n → (F i).length = sz ∧ RepCells (live w) w (F i) b (o + i * sz)) → RepRows (live w) w ((List.range n).map F) b o sz
  | 0, _, _, _ => trivial
  | n + 1, o, F, h => by
    rw [List.range_succ_eq_map, List.map_cons, List.map_map]
    refine ⟨(h 0 (by omega)).1, by have := (h 0 (by omega)).2; simpa using this, ?_⟩
    exact zEk (F := F ∘ Nat.succ) fun i hi => ⟨(h (i + 1) (by omega)).1, by
      have := (h (i + 1) (by omega)).2
      rw [show o + sz + i * sz = o + (i + 1) * sz by rw [Nat.succ_mul]; omega]
      exact this⟩
theorem zAl {H : Type} {P : Program} {e : TypeId} {p : Nat → Bool} {d : DataW H} : ∀ {l : List (DataW H)}, (DataW.weightsAll P e l).all p = true → d ∈ l → (d.weights P e).all p = true
  | x :: l, h, hd => by
    simp only [DataW.weightsAll, List.all_append, Bool.and_eq_true] at h
    rcases List.mem_cons.1 hd with rfl | hd
    · exact h.1
    · exact zAl h.2 hd
theorem yx {P : Program} {t e : TypeId} {sz : Nat} {S : List D → Prop} (ht : P.underlying t = some (.slice e)) (hc : P.cellsOf e = sz) (hsz : 0 < sz) (hS : ∀ ds, S ds → ds.length = sz) (he : Opens P e S) :
    Opens P t fun ds => ∃ es : List (List D), ds = [.slice sz es] ∧ es.length * P.bytesOf e ≤ reachBytes ∧ ∀ c ∈ es, S c := by
  intro H enc w base spare held fuel cs x h hz
  rcases Go.Deep.open_slice ht h with ⟨rfl, _⟩ | ⟨a, len, cap, m, n, Dt, Pl, rfl, hb, hl, hm, hmm, hx, hi⟩
  · exact ⟨_, ⟨[], rfl, by simp, fun c hc => by cases hc⟩, ⟨_, _, rfl, ⟨none, 0, rfl, Nat.le_refl _, Nat.zero_le _, .inl rfl⟩, rfl⟩, fun v hv => by simp at hv; subst hv; rfl⟩
  · have hlm : len ≤ m := by rw [hmm]; split <;> omega
    rw [hc] at hi
    rw [hx] at hz
    simp only [DataW.weights, ht, List.all_cons, List.all_append, Bool.and_eq_true, decide_eq_true_eq] at hz
    obtain ⟨hz1, hz2, hz3⟩ := hz
    have hzl : len * P.bytesOf e ≤ reachBytes := Nat.le_trans (Nat.mul_le_mul_right _ (by simp)) hz1
    have key : ∀ i, ∃ ds, i < len → S ds ∧ RepCells (live w) w ds a.block (a.off + i * sz) ∧ ∃ v, w.cell? (a.add (i * sz)) = some v := fun i => by
      by_cases hlt : i < len
      · obtain ⟨cs', h1, h2⟩ := hi i (by omega)
        obtain ⟨ds, k1, k2, k3⟩ := he enc w base spare held n cs' _ h2 (zAl hz2 (List.mem_map.2 ⟨i, List.mem_range.2 hlt, rfl⟩))
        obtain ⟨_, hlen, hcell⟩ := World.cells?_some h1
        obtain ⟨v, hv⟩ : ∃ v, w.cell? (a.add (i * sz)) = some v := by
          have := hcell 0 hsz
          rw [show (a.add (i * sz)).add 0 = a.add (i * sz) from rfl, List.getElem?_eq_getElem (by omega)] at this
          exact ⟨_, this⟩
        have hn := zD9 hv
        have e1 : (a.add (i * sz)).block = a.block := by unfold Addr.add; split <;> rfl
        have e2 : (a.add (i * sz)).off = a.off + i * sz := by
          unfold Addr.add
          split
          · rename_i hz
            rw [hz]
            rfl
          · rfl
        rw [e1, e2] at hn
        exact ⟨ds, fun _ => ⟨k1, cells_rep hn h1 k2 k3, v, hv⟩⟩
      · exact ⟨[], fun h => absurd h hlt⟩
    let F : Nat → List D := fun i => Classical.choose (key i)
    have hF : ∀ i, i < len → S (F i) ∧ RepCells (live w) w (F i) a.block (a.off + i * sz) ∧ ∃ v, w.cell? (a.add (i * sz)) = some v := fun i => Classical.choose_spec (key i)
    refine ⟨_, ⟨(List.range len).map F, rfl, by simpa using hzl, fun c hc => ?_⟩, ⟨_, _, rfl, ⟨some a, cap, by simp, by simpa using hl, hm, ?_⟩, rfl⟩, fun v hv => by simp at hv; subst hv; rfl⟩
    · obtain ⟨i, hi, rfl⟩ := List.mem_map.1 hc
      exact (hF i (by simpa using hi)).1
    · by_cases h0 : len = 0
      · subst h0; exact .inl rfl
      · obtain ⟨_, _, v, hv⟩ := hF 0 (by omega)
        rw [show a.add (0 * sz) = a by rw [Nat.zero_mul]; rfl] at hv
        refine .inr ⟨a.block, a.off, by rw [← zD9 hv], zEk fun i hi => ⟨hS _ (hF i hi).1, (hF i hi).2.1⟩⟩
/-- Lists of data, one behind the other. -/
def Parts : List (List D → Prop) → List D → Prop
  | [], ds => ds = []
  | S :: Ss, ds => ∃ a b, ds = a ++ b ∧ S a ∧ Parts Ss b
def FieldsOpen (P : Program) : Nat → List Field → List (List D → Prop) → Prop
  | _, [], [] => True
  | o, f :: fs, S :: Ss => f.offset = o ∧ Opens P f.type S ∧ FieldsOpen P (o + P.cellsOf f.type) fs Ss
  | _, _, _ => False
def offEnd (P : Program) : Nat → List Field → Nat
  | o, [] => o
  | o, f :: fs => offEnd P (o + P.cellsOf f.type) fs
theorem zEA {H : Type} {enc : TypeId × Value → H} {P : Program} {w : World} {base : Nat} {spare : Nat → Bool} {held : Bool} {n : Nat} {cs : List Value} : ∀ {fs : List Field} {Ss : List (List D → Prop)} {o : Nat}, FieldsOpen P o fs Ss → cs.length = offEnd P o fs →
    (∀ f ∈ fs, ∃ y, DataW.trod enc P w base spare held n f.type ((cs.drop f.offset).take (P.cellsOf f.type)) = some y ∧ (y.1.weights P f.type).all (· ≤ reachBytes) = true) → ∃ ds, Parts Ss ds ∧ RepVals (live w) w ds (cs.drop o) ∧ ∀ v ∈ cs.drop o, v.oneCell' = true
  | [], [], o, _, hl, _ => ⟨[], rfl, by simp only [offEnd] at hl; rw [List.drop_of_length_le (by omega)]; rfl, fun v hv => by simp only [offEnd] at hl; rw [List.drop_of_length_le (by omega)] at hv; cases hv⟩
  | [], _ :: _, _, h, _, _ => h.elim
  | _ :: _, [], _, h, _, _ => h.elim
  | f :: fs, S :: Ss, o, ⟨ho, hS, hF⟩, hl, hy => by
    obtain ⟨y, hy1, hyz⟩ := hy f List.mem_cons_self
    rw [ho] at hy1
    obtain ⟨a, ka, kb, kc⟩ := hS enc w base spare held n _ _ hy1 hyz
    obtain ⟨b, q1, q2, q3⟩ := zEA (enc := enc) (w := w) (base := base) (spare := spare) (held := held) (n := n) hF hl fun g hg => hy g (List.mem_cons_of_mem _ hg)
    have e : cs.drop o = (cs.drop o).take (P.cellsOf f.type) ++ cs.drop (o + P.cellsOf f.type) := by
      rw [← List.drop_drop, List.take_append_drop]
    refine ⟨a ++ b, ⟨a, b, rfl, ka, q1⟩, by rw [e]; exact kb.append q2, fun v hv => ?_⟩
    rw [e] at hv
    rcases List.mem_append.1 hv with hv | hv
    · exact kc v hv
    · exact q3 v hv
theorem yo {P : Program} {t : TypeId} {fs : Array Field} {Ss : List (List D → Prop)} (ht : P.underlying t = some (.struct fs)) (hF : FieldsOpen P 0 fs.toList Ss) (hc : P.cellsOf t = offEnd P 0 fs.toList) : Opens P t (Parts Ss) := by
  intro H enc w base spare held fuel cs x h hz
  obtain ⟨xs, n, _, hx, hl, hxs, hf⟩ := DataW.trod_struct ht h
  rw [hx] at hz
  simp only [DataW.weights, ht] at hz
  have := zEA (enc := enc) (w := w) (base := base) (spare := spare) (held := held) (n := n) (cs := cs) hF (by rw [hl, hc]) fun f hfm => by
    obtain ⟨i, hi⟩ := List.getElem?_of_mem hfm
    have hi' : fs[i]? = some f := by simpa using hi
    have hlt := (Array.getElem?_eq_some_iff.1 hi').1
    refine ⟨xs[i]'(by omega), by rw [hf i f hi', List.getElem?_eq_getElem], List.all_eq_true.2 fun q hq => List.all_eq_true.1 hz q (DataW.weights_mem_each (j := i) (t := f.type) (d := (xs[i]'(by omega)).1) (by rw [List.getElem?_map, hi]; rfl) (by rw [List.getElem?_map, List.getElem?_eq_getElem (by omega)]; rfl) q hq)⟩
  simpa using this
/-- A parameter of a type is read as plain data of a form. -/
def OpensP (P : Program) (t : TypeId) (S : D → Prop) : Prop :=
  ∀ {H : Type} (enc : TypeId × Value → H) (w : World) (r : Reach) (b0 base : Nat) (spare : Nat → Bool) (held : Bool) (v : Value) (d : DataW H) (p : List MemPlace),
    Value.okWide P w r b0 t v → DataW.Trod enc P w base spare held t v d p → (d.weights P t).all (· ≤ reachBytes) = true → ∃ x, S x ∧ Rep (live w) w x v
theorem opensP_struct {P : Program} {t : TypeId} {fs : Array Field} {S : List D → Prop} (ht : P.underlying t = some (.struct fs)) (h : Opens P t S) : OpensP P t fun d => ∃ ds, d = .agg ds ∧ S ds := by
  intro H enc w r b0 base spare held v d p hv ⟨fuel, hr⟩ hz
  obtain ⟨cs, rfl, _⟩ := okWide_struct ht hv
  obtain ⟨ds, k1, k2, k3⟩ := h enc w base spare held fuel _ _ hr hz
  exact ⟨_, ⟨ds, rfl, k1⟩, cs.toList, rfl, k2, k3⟩
theorem zCv {P : Program} {t : TypeId} {S : List D → Prop} {S' : D → Prop} (hone : ∀ {w : World} {r : Reach} {b0 : Nat} {v : Value}, Value.okWide P w r b0 t v → v.cells = #[v]) (h : Opens P t S) (hS : ∀ ds, S ds → ∃ x, ds = [x] ∧ S' x) : OpensP P t S' := by
  intro H enc w r b0 base spare held v d p hv ⟨fuel, hr⟩ hz
  rw [hone hv] at hr
  obtain ⟨ds, k1, k2, k3⟩ := h enc w base spare held fuel _ _ hr hz
  obtain ⟨x, rfl, hx⟩ := hS ds k1
  obtain ⟨u, us, e, hu, _⟩ := k2
  simp at e
  exact ⟨x, hx, by rw [e.1]; exact hu⟩
theorem opensP_int {P : Program} {t : TypeId} {k : IntKind} (ht : P.underlying t = some (.int k)) : OpensP P t fun d => ∃ n, d = .int k n ∧ (Lit.int k n).wf = true :=
  zCv (fun hv => by obtain ⟨n, rfl⟩ := okWide_int ht hv; rfl) (zB9 ht) fun _ ⟨n, e, hw⟩ => ⟨_, e, n, rfl, hw⟩
theorem opensP_slice {P : Program} {t e : TypeId} {sz : Nat} {S : List D → Prop} (ht : P.underlying t = some (.slice e)) (hc : P.cellsOf e = sz) (hsz : 0 < sz) (hS : ∀ ds, S ds → ds.length = sz) (he : Opens P e S) : OpensP P t fun d => ∃ es : List (List D), d = .slice sz es ∧ es.length * P.bytesOf e ≤ reachBytes ∧ ∀ c ∈ es, S c :=
  zCv (fun hv => by obtain ⟨a, l, c, rfl⟩ := okWide_slice ht hv; rfl) (yx ht hc hsz hS he) fun _ ⟨es, e, h⟩ => ⟨_, e, es, rfl, h⟩
def Sat : List (D → Prop) → List D → Prop
  | [], ds => ds = []
  | S :: Ss, ds => ∃ d ds', ds = d :: ds' ∧ S d ∧ Sat Ss ds'
def OpensAll (P : Program) : List TypeId → List (D → Prop) → Prop
  | [], [] => True
  | t :: ts, S :: Ss => OpensP P t S ∧ OpensAll P ts Ss
  | _, _ => False
theorem zDo {H : Type} {enc : TypeId × Value → H} {P : Program} {w : World} {b0 base : Nat} {spare : Nat → Bool} {held : Bool} : ∀ {ts : List TypeId} {Ss : List (D → Prop)} {vs : List Value} {ds : List (DataW H)} {p : List MemPlace}, OpensAll P ts Ss → DataW.TrodAll enc P w base spare held ts vs ds p →
    (∀ (j : Nat) t v, ts[j]? = some t → vs[j]? = some v → Value.okWide P w .any b0 t v) → (DataW.weightsEach P ts ds).all (· ≤ reachBytes) = true → ∃ xs, Sat Ss xs ∧ RepVals (live w) w xs vs
  | [], [], _, _, _, _, h, _, _ => by
    obtain ⟨rfl, _, _⟩ := trodAll_nil h
    exact ⟨[], rfl, rfl⟩
  | [], _ :: _, _, _, _, h, _, _, _ => h.elim
  | _ :: _, [], _, _, _, h, _, _, _ => h.elim
  | t :: ts, S :: Ss, _, _, _, ⟨h1, h2⟩, h, hv, hz => by
    obtain ⟨v, vs, d, ds, p, q, rfl, rfl, rfl, k1, k2⟩ := trodAll_cons h
    simp only [DataW.weightsEach, List.all_append, Bool.and_eq_true] at hz
    obtain ⟨x, s1, s2⟩ := h1 enc w .any b0 base spare held v d p (hv 0 t v rfl rfl) k1 hz.1
    obtain ⟨xs, s3, s4⟩ := zDo (b0 := b0) h2 k2 (fun j t v hj hv' => hv (j + 1) t v (by simpa using hj) (by simpa using hv')) hz.2
    exact ⟨x :: xs, ⟨x, xs, rfl, s1, s3⟩, v, vs, rfl, s2, s4⟩
theorem zBN {H : Type} {enc : TypeId × Value → H} {P : Program} (hl : laidOutB P = true) {W W' : World} (hb : Below W.heap.size W W') : ∀ {ts : List TypeId} {vs : List Value} {ds : List (DataW H)} {p : List MemPlace}, (ts.all fun t => P.readableRec t && decide (t < P.types.size)) = true → (∀ x ∈ p, x.block < W.heap.size) →
    DataW.TrodAll enc P W 0 (fun _ => true) true ts vs ds p → DataW.TrodAll enc P W' 0 (fun b => decide (b < W.heap.size)) true ts vs ds p
  | [], _, _, _, _, _, h => by
    obtain ⟨rfl, rfl, rfl⟩ := trodAll_nil h
    exact trodAll_mk0
  | t :: ts, _, _, _, ht, hp, h => by
    obtain ⟨v, vs, d, ds, p, q, rfl, rfl, rfl, k1, k2⟩ := trodAll_cons h
    simp only [List.all_cons, Bool.and_eq_true, decide_eq_true_eq] at ht
    exact ⟨p, q, Below.trod hl ht.1.1 ht.1.2 k1 hb fun x hx => hp x (List.mem_append_left _ hx), zBN hl hb (by simpa using ht.2) (fun x hx => hp x (List.mem_append_right _ hx)) k2, rfl⟩
theorem zCi {H : Type} {enc : TypeId × Value → H} {P : Program} {w : World} {base : Nat} {spare : Nat → Bool} {held : Bool} : ∀ {ts : List TypeId} {vs : List Value} {ds : List (DataW H)} {p : List MemPlace}, DataW.TrodAll enc P w base spare held ts vs ds p → ds.length = ts.length
  | [], _, _, _, h => by
    obtain ⟨_, rfl, _⟩ := trodAll_nil h
    rfl
  | t :: ts, _, _, _, h => by
    obtain ⟨v, vs, d, ds, p, q, rfl, rfl, rfl, k1, k2⟩ := trodAll_cons h
    simp [zCi k2]
/-- What a law's row asks of one call, out of a contract. -/
theorem law_contract {H : Type} {enc : TypeId × Value → H} {P : Program} {f : FuncId} {fn : Func} {s : ChangeSpec} {apart : Bool} {tb : TypeId} {ts : List TypeId} {Ss : List (D → Prop)} (hl : laidOutB P = true) (hts : fn.params.toList = ts) (hrr : (ts.all fun t => P.readableRec t && decide (t < P.types.size)) = true)
    (hres : fn.resultTypes = #[tb]) (htb : P.underlying tb = some .bool) (hvars : s.vars = []) (hvt : s.plain.varTypes P = [])
    (hs : ∀ ds : List (DataW H), ds.length = ts.length → s.fn H ds = { results := [.lit (.bool true)], args := ds })
    (ho : OpensAll P ts Ss) (hp : ∀ xs, Sat Ss xs → PureAt P f xs (.bool true)) :
    ∀ (W : World) (base : Nat) (args : Array Value) (ds gs : List (DataW H)) (before : List MemPlace),
      (∀ (j : Nat) t v, fn.params[j]? = some t → args[j]? = some v → Value.okWide P W .any base t v) →
      DataW.Whole enc P fn.params.toList s.vars apart W args.toList ds gs before →
      (DataW.weightsEach P (fn.params.toList ++ s.plain.varTypes P) (ds ++ gs)).all (· ≤ reachBytes) = true → GOK W (fun _ => False) →
      Calls P f args W fun e W' => ∃ v, e = .returned v ∧ s.post enc P fn apart true false false W args v W' := by
  intro W base args ds gs before hval hW hz hG
  have hW' := hW
  have hlt := hW.lt
  obtain ⟨p, q, hA0, hV, rfl, _, _⟩ := hW
  rw [hvars] at hV
  obtain ⟨rfl, rfl⟩ := trodVars_none hV
  rw [List.append_nil] at hlt
  have hA : DataW.TrodAll enc P W 0 (fun _ => true) true fn.params.toList args.toList ds p := hA0
  rw [hts] at hA
  rw [hvt, List.append_nil, List.append_nil, hts] at hz
  obtain ⟨xs, h1, h2⟩ := zDo (b0 := base) ho hA (fun j t v hj hv => hval j t v (by rw [← hts] at hj; simpa using hj) (by simpa using hv)) hz
  have hlen : ds.length = ts.length := zCi hA
  refine ((hp xs h1).2 W (live W) args.toList (fun b o h => h) hG h2).mono fun e W' he => ?_
  obtain ⟨v, F', rfl, hb, hr, _⟩ := he
  obtain rfl : v = .bool true := hr
  refine ⟨_, rfl, ds, [], _, [], p, [], hW', ?_, ?_, ?_, hb.frame _, fun h => by cases h⟩
  · rw [List.append_nil, hs ds hlen, hres]
    exact trodAll_cons_mk (shut_bool htb _) trodAll_mk0
  · rw [List.append_nil, hs ds hlen, hts]
    exact zBN hl hb hrr hlt hA
  · rw [List.append_nil, hs ds hlen, hvars]
    rfl
end Go.Proofs.YtaokpncjemkhcaaGreat
namespace Go.Proofs.YtaokpncjemkhcaaGreat
open Go.RowKit
set_option linter.all false
/-- The state behind a quiet operation that needs no fact of the program. -/
def simple1 (N : Nat) (o : Oper) (σ : St) : Option St := match o.guard, o.dst with
  | none, some t => bif Nat.blt t N then (match o.op with
    | .move x => (match σ.ev x with | some (true, tv) => some (σ.put t true tv) | _ => none)
    | .assign x => (match σ.ev x with | some (true, tv) => some (σ.put t true tv) | _ => none)
    | .extract x i => (match σ.ev x with
      | some (true, .d (.tup ds)) => (match ds[i]? with | some d => some (σ.put t true (.d d)) | none => none)
      | _ => none)
    | _ => none) else none
  | _, _ => none
def simples (N : Nat) : Nat → List Oper → St → Option (List Oper × St)
  | 0, l, σ => some (l, σ)
  | k + 1, o :: l, σ => (match simple1 N o σ with | some σ' => simples N k l σ' | none => none)
  | _ + 1, [], _ => none
theorem run_simple1 {Γ : Cx} {P : Program} {ops : Array Oper} {o : Oper} {l : List Oper} {σ σ' : St} {Q : Exit → Act → World → Prop} {N : Nat} (hn : Γ.n = N) (h : simple1 N o σ = some σ') (hr : ARun Γ P ops l σ' Q) : ARun Γ P ops (o :: l) σ Q := by
  unfold simple1 at h
  split at h
  · rename_i t hg hd
    cases hb : Nat.blt t N with
    | false => rw [hb] at h; cases h
    | true =>
      rw [hb, cond_true] at h
      split at h
      · rename_i x hop
        split at h
        · rename_i tv hx
          cases h
          exact sq hg hd hn hb (zG hop hx) hr
        · cases h
      · rename_i x hop
        split at h
        · rename_i tv hx
          cases h
          exact sq hg hd hn hb (zF hop hx) hr
        · cases h
      · rename_i x i hop
        split at h
        · rename_i ds hx
          split at h
          · rename_i d hd'
            cases h
            exact sq hg hd hn hb (zY hop hx hd') hr
          · cases h
        · cases h
      · cases h
  · cases h
theorem qs {Γ : Cx} {P : Program} {ops : Array Oper} {Q : Exit → Act → World → Prop} {N : Nat} : ∀ (k : Nat) {l r : List Oper} {σ σ' : St} (hn : Γ.n = N) (h : simples N k l σ = some (r, σ')) (hr : ARun Γ P ops r σ' Q), ARun Γ P ops l σ Q
  | 0, l, r, σ, σ', _, h, hr => by cases h; exact hr
  | k + 1, o :: l, r, σ, σ', hn, h, hr => by
    unfold simples at h
    split at h
    · rename_i σ₁ h1
      exact run_simple1 hn h1 (qs k hn h hr)
    · cases h
  | k + 1, [], r, σ, σ', _, h, _ => by cases h
end Go.Proofs.YtaokpncjemkhcaaGreat
namespace Go.Proofs.YtaokpncjemkhcaaGreat
set_option linter.all false
structure Due8 where
  frm : Int
  to : Int
  num : Int
def sumI : List Int → Int
  | [] => 0
  | x :: xs => x + sumI xs
theorem kN : ∀ (l m : List Int), sumI (l ++ m) = sumI l + sumI m
  | [], m => by simp [sumI]
  | x :: l, m => by simp only [List.cons_append, sumI, kN l m]; omega
def owedI : List Due8 → Int
  | [] => 0
  | q :: qs => q.num + owedI qs
theorem zBw : ∀ (l m : List Due8), owedI (l ++ m) = owedI l + owedI m
  | [], m => by simp [owedI]
  | x :: l, m => by simp only [List.cons_append, owedI, zBw l m]; omega
/-- From n down to 0. -/
def downs : Nat → List Int
  | 0 => [0]
  | n + 1 => ((n + 1 : Nat) : Int) :: downs n
theorem zD7 : ∀ {n : Nat} {x : Int}, x ∈ downs n ↔ 0 ≤ x ∧ x ≤ n
  | 0, x => by simp only [downs, List.mem_singleton]; omega
  | n + 1, x => by simp only [downs, List.mem_cons, zD7 (n := n)]; omega
def allDl : List Due8 → List (List Int)
  | [] => [[]]
  | q :: qs => (downs q.num.toNat).flatMap fun x => (allDl qs).map fun d => x :: d
def listedB : List Due8 → List Int → Bool
  | [], [] => true
  | q :: qs, x :: xs => (decide (0 ≤ x) && decide (x ≤ q.num)) && listedB qs xs
  | _, _ => false
def Num0 (qs : List Due8) : Prop := ∀ q ∈ qs, 0 ≤ q.num
theorem Num0.tail {q : Due8} {qs : List Due8} (h : Num0 (q :: qs)) : Num0 qs := fun x hx => h x (List.mem_cons_of_mem _ hx)
theorem ke : ∀ {qs : List Due8} {d : List Int}, Num0 qs → (d ∈ allDl qs ↔ listedB qs d = true)
  | [], d, _ => by cases d <;> simp [allDl, listedB]
  | q :: qs, d, h => by
    have hq := h q List.mem_cons_self
    cases d with
    | nil => simp [allDl, listedB]
    | cons x xs =>
      simp only [allDl, List.mem_flatMap, List.mem_map, listedB, Bool.and_eq_true, decide_eq_true_eq, zD7]
      constructor
      · rintro ⟨y, hy, z, hz, e⟩
        cases e
        exact ⟨⟨hy.1, by omega⟩, (ke h.tail).1 hz⟩
      · rintro ⟨⟨h1, h2⟩, h3⟩
        exact ⟨x, ⟨h1, by omega⟩, xs, (ke h.tail).2 h3, rfl⟩
theorem listed_len : ∀ {qs : List Due8} {d : List Int}, listedB qs d = true → d.length = qs.length
  | [], [], _ => rfl
  | [], _ :: _, h => by simp [listedB] at h
  | _ :: _, [], h => by simp [listedB] at h
  | q :: qs, x :: xs, h => by
    simp only [listedB, Bool.and_eq_true] at h
    simp [listed_len h.2]
theorem kp : ∀ {qs : List Due8} {d : List Int}, listedB qs d = true → 0 ≤ sumI d ∧ sumI d ≤ owedI qs
  | [], [], _ => by simp [sumI, owedI]
  | [], _ :: _, h => by simp [listedB] at h
  | _ :: _, [], h => by simp [listedB] at h
  | q :: qs, x :: xs, h => by
    simp only [listedB, Bool.and_eq_true, decide_eq_true_eq] at h
    have := kp h.2
    simp only [sumI, owedI]; omega
/-- Due number w, if it is among those from number i on, is delivered whole. -/
def wholeB (w : Int) : Nat → List Due8 → List Int → Bool
  | i, q :: qs, x :: xs => (((i : Int) != w) || (x == q.num)) && wholeB w (i + 1) qs xs
  | _, _, _ => true
def searchD (can : List Int → Bool) (w : Int) : Nat → List Due8 → List Int → Int → Option (List Int)
  | _, [], pre, b => if (b == 0 && can pre) = true then some pre else none
  | i, q :: qs, pre, b => (List.range ((if (i : Int) = w then 0 else min b q.num).toNat + 1)).findSome? fun (n : Nat) => searchD can w (i + 1) qs (pre ++ [q.num - (n : Int)]) (b - (n : Int))
theorem findSome_range {α : Type} {f : Nat → Option α} {m N : Nat} (h : m ≤ N) (hf : ∀ n, m < n → n ≤ N → f n = none) : (List.range (N + 1)).findSome? f = (List.range (m + 1)).findSome? f := by
  obtain ⟨k, rfl⟩ := Nat.exists_eq_add_of_le h
  rw [show m + k + 1 = (m + 1) + k by omega, List.range_add, List.findSome?_append]
  have : (List.map (fun x => m + 1 + x) (List.range k)).findSome? f = none := by
    rw [List.findSome?_eq_none_iff]
    intro x hx
    obtain ⟨y, hy, rfl⟩ := List.mem_map.1 hx
    rw [List.mem_range] at hy
    exact hf _ (by omega) (by omega)
  rw [this]; simp
theorem zAt {α β : Type} {f g : α → Option β} : ∀ {l : List α}, (∀ x ∈ l, f x = g x) → l.findSome? f = l.findSome? g
  | [], _ => rfl
  | x :: l, h => by
    rw [List.findSome?_cons, List.findSome?_cons, h x List.mem_cons_self, zAt fun y hy => h y (List.mem_cons_of_mem _ hy)]
theorem zCc : ∀ n : Nat, downs n = (List.range (n + 1)).map fun (k : Nat) => (n : Int) - (k : Int)
  | 0 => by simp [downs]
  | n + 1 => by
    rw [downs, zCc n, List.range_succ_eq_map (n := n + 1)]
    simp only [List.map_cons, List.map_map]
    congr 1
    apply List.map_congr_left
    intro k _
    simp only [Function.comp]
    omega
theorem zCV (can : List Int → Bool) (w : Int) : ∀ (i : Nat) (qs : List Due8) (pre : List Int) (b : Int), Num0 qs → 0 ≤ b →
    searchD can w i qs pre b = ((allDl qs).find? fun d => (owedI qs - sumI d == b && wholeB w i qs d) && can (pre ++ d)).map fun d => pre ++ d
  | i, [], pre, b, _, hb => by
    simp only [searchD, allDl, List.find?_singleton, owedI, sumI, wholeB, List.append_nil, Bool.and_true, show (0 : Int) - 0 = 0 from rfl]
    rw [show ((0 : Int) == b) = (b == 0) from by rw [Bool.eq_iff_iff]; simp; omega]
    split <;> simp_all
  | i, q :: qs, pre, b, h, hb => by
    have hq := h q List.mem_cons_self
    obtain ⟨N, hN⟩ : ∃ N : Nat, q.num = (N : Int) := ⟨q.num.toNat, by omega⟩
    have hNt : q.num.toNat = N := by omega
    simp only [searchD, allDl, List.find?_flatMap, hNt, zCc, List.findSome?_map, Function.comp_def, List.find?_map]
    rw [List.map_findSome?]
    generalize hm : (if (i : Int) = w then 0 else min b q.num).toNat = m
    have hmN : m ≤ N := by rw [← hm]; split <;> omega
    rw [findSome_range hmN (fun n h1 h2 => by
      simp only [Function.comp, Option.map_eq_none_iff, List.find?_eq_none]
      intro d hd
      have hl := kp ((ke h.tail).1 hd)
      simp only [owedI, sumI, wholeB, hN, Bool.and_eq_true, beq_iff_eq, Bool.or_eq_true, bne_iff_ne, not_and]
      intro h3 h4
      exfalso
      obtain ⟨ha, h4⟩ := h3
      obtain ⟨h5, _⟩ := h4
      rw [← hm] at h1
      by_cases hw : (i : Int) = w
      · rw [if_pos hw] at h1
        rcases h5 with h5 | h5
        · exact h5 hw
        · omega
      · rw [if_neg hw] at h1
        omega)]
    apply zAt
    intro n hn
    rw [List.mem_range] at hn
    have hnb : (n : Int) ≤ b ∧ (n : Int) ≤ q.num := by rw [← hm] at hn; split at hn <;> omega
    rw [zCV can w (i + 1) qs _ _ h.tail (by omega)]
    simp only [Function.comp, hN, Option.map_map]
    have e1 : (fun d : List Int => (owedI qs - sumI d == b - (n : Int) && wholeB w (i + 1) qs d) && can (pre ++ [(N : Int) - (n : Int)] ++ d)) =
        fun d => (owedI (q :: qs) - sumI (((N : Int) - (n : Int)) :: d) == b && wholeB w i (q :: qs) (((N : Int) - (n : Int)) :: d)) && can (pre ++ ((N : Int) - (n : Int)) :: d) := by
      funext d
      have ea : (owedI qs - sumI d == b - (n : Int)) = (owedI (q :: qs) - sumI (((N : Int) - (n : Int)) :: d) == b) := by
        rw [Bool.eq_iff_iff]; simp only [beq_iff_eq, owedI, sumI, hN]; omega
      have eb : wholeB w i (q :: qs) (((N : Int) - (n : Int)) :: d) = wholeB w (i + 1) qs d := by
        simp only [wholeB, hN]
        by_cases hw : (i : Int) = w
        · have : n = 0 := by rw [← hm, if_pos hw] at hn; simpa using hn
          subst this; simp
        · simp [hw]
      rw [ea, eb, List.append_assoc]; rfl
    rw [e1]
    congr 1
    funext d
    simp
end Go.Proofs.YtaokpncjemkhcaaGreat
namespace Go.Proofs.YtaokpncjemkhcaaGreat
set_option linter.all false
def bestD (can : List Int → Bool) (w : Int) (qs : List Due8) : Option (List Int × Int) :=
  (List.range ((owedI qs).toNat + 1)).findSome? fun (n : Nat) => (searchD can w 0 qs [] (n : Int)).map fun d => (d, (n : Int))
/-- What is asked of a list. -/
def okD (can : List Int → Bool) (w : Int) (qs : List Due8) (d : List Int) : Bool := wholeB w 0 qs d && can d
theorem zCM (can : List Int → Bool) (w : Int) (qs : List Due8) (b : Int) (h : Num0 qs) (hb : 0 ≤ b) :
    searchD can w 0 qs [] b = (allDl qs).find? fun d => owedI qs - sumI d == b && okD can w qs d := by
  rw [zCV can w 0 qs [] b h hb]
  simp only [List.nil_append, Option.map_id', Bool.and_assoc, okD]
theorem zD5 {can : List Int → Bool} {w : Int} {qs : List Due8} {d : List Int} {n : Int} (h : Num0 qs) (hs : bestD can w qs = some (d, n)) :
    listedB qs d = true ∧ okD can w qs d = true ∧ n = owedI qs - sumI d ∧ (∀ e, listedB qs e = true → okD can w qs e = true → sumI e ≤ sumI d) ∧
    (allDl qs).find? (fun e => owedI qs - sumI e == n && okD can w qs e) = some d := by
  unfold bestD at hs
  obtain ⟨l₁, k, l₂, hl, hk, hno⟩ := List.findSome?_eq_some_iff.1 hs
  rw [Option.map_eq_some_iff] at hk
  obtain ⟨d', hd', e⟩ := hk
  cases e
  have hf := hd'
  rw [zCM can w qs _ h (by omega)] at hf
  have hmem := List.mem_of_find?_eq_some hf
  have hp := List.find?_some hf
  simp only [Bool.and_eq_true, beq_iff_eq] at hp
  refine ⟨(ke h).1 hmem, hp.2, by omega, fun e he ho => ?_, hf⟩
  have hse := kp he
  rcases Int.lt_or_le (sumI d) (sumI e) with hlt | hle
  · exfalso
    -- the number that e leaves over comes earlier
    obtain ⟨m, hm⟩ : ∃ m : Nat, owedI qs - sumI e = (m : Int) := ⟨(owedI qs - sumI e).toNat, by omega⟩
    have hmk : m < k := by omega
    have hk1 : l₁.length = k := by
      have h1 := congrArg (fun l => l[l₁.length]?) hl
      simp only [List.getElem?_append_right (Nat.le_refl _), Nat.sub_self, List.getElem?_cons_zero] at h1
      obtain ⟨hlt', he'⟩ := List.getElem?_eq_some_iff.1 h1
      simpa using he'
    have hml : m ∈ l₁ := by
      have h1 : (List.range ((owedI qs).toNat + 1))[m]? = some m := by rw [List.getElem?_range (by omega)]
      rw [hl, List.getElem?_append_left (by omega)] at h1
      exact List.mem_of_getElem? h1
    have := hno m hml
    rw [Option.map_eq_none_iff, zCM can w qs _ h (by omega), List.find?_eq_none] at this
    have := this e ((ke h).2 he)
    simp [ho, hm] at this
  · exact hle
theorem best_none {can : List Int → Bool} {w : Int} {qs : List Due8} (h : Num0 qs) (hs : bestD can w qs = none) (e : List Int) (he : listedB qs e = true) : okD can w qs e = false := by
  unfold bestD at hs
  rw [List.findSome?_eq_none_iff] at hs
  have hse := kp he
  have := hs (owedI qs - sumI e).toNat (by rw [List.mem_range]; omega)
  rw [Option.map_eq_none_iff, zCM can w qs _ h (by omega), List.find?_eq_none] at this
  have := this e ((ke h).2 he)
  rw [show (((owedI qs - sumI e).toNat : Nat) : Int) = owedI qs - sumI e by omega] at this
  simpa using this
theorem best_isSome {can : List Int → Bool} {w : Int} {qs : List Due8} (h : Num0 qs) : (bestD can w qs).isSome = true ↔ ∃ e, listedB qs e = true ∧ okD can w qs e = true := by
  constructor
  · intro hs
    obtain ⟨⟨d, n⟩, hd⟩ := Option.isSome_iff_exists.1 hs
    have := zD5 h hd
    exact ⟨d, this.1, this.2.1⟩
  · rintro ⟨e, he, ho⟩
    cases hb : bestD can w qs with
    | some x => rfl
    | none => rw [best_none h hb e he] at ho; cases ho
def fullD (qs : List Due8) : List Int := qs.map (·.num)
end Go.Proofs.YtaokpncjemkhcaaGreat
namespace Go.Proofs.YtaokpncjemkhcaaGreat
set_option linter.all false
def sumN (f : Nat → Int) : Nat → Int
  | 0 => 0
  | n + 1 => sumN f n + f n
theorem sumN_mono {f g : Nat → Int} : ∀ {n : Nat}, (∀ i, i < n → f i ≤ g i) → sumN f n ≤ sumN g n
  | 0, _ => Int.le_refl _
  | n + 1, h => by
    have h1 := sumN_mono (n := n) fun i hi => h i (by omega)
    have h2 := h n (by omega)
    simp only [sumN]; omega
theorem sumN_congr {f g : Nat → Int} : ∀ {n : Nat}, (∀ i, i < n → f i = g i) → sumN f n = sumN g n
  | 0, _ => rfl
  | n + 1, h => by simp only [sumN, sumN_congr (n := n) fun i hi => h i (by omega), h n (by omega)]
theorem zDi {f : Nat → Int} : ∀ {n : Nat}, (∀ i, i < n → f i = 0) → sumN f n = 0
  | 0, _ => rfl
  | n + 1, h => by simp only [sumN, zDi (n := n) fun i hi => h i (by omega), h n (by omega)]; rfl
theorem zCY {f : Nat → Int} : ∀ {n : Nat}, (∀ i, i < n → 0 ≤ f i) → 0 ≤ sumN f n
  | 0, _ => Int.le_refl _
  | n + 1, h => by
    have h1 := zCY (n := n) fun i hi => h i (by omega)
    have h2 := h n (by omega)
    simp only [sumN]; omega
/-- What comes and goes at a house. -/
def netH : List Due8 → List Int → Int → Int
  | q :: qs, x :: xs, h => ((if q.to = h then x else 0) - (if q.frm = h then x else 0)) + netH qs xs h
  | _, _, _ => 0
theorem zCb : ∀ (A : List Due8) (a : List Int) (B : List Due8) (b : List Int) (h : Int), a.length = A.length → netH (A ++ B) (a ++ b) h = netH A a h + netH B b h
  | [], [], B, b, h, _ => by simp [netH]
  | [], _ :: _, _, _, _, e => by cases e
  | _ :: _, [], _, _, _, e => by cases e
  | q :: A, x :: a, B, b, h, e => by
    simp only [List.cons_append, netH, zCb A a B b h (by simpa using e)]; omega
def leftH (hand : List Int) (qs : List Due8) (d : List Int) (h : Nat) : Int := hand.getD h 0 + netH qs d (h : Int)
def lackP (N : Nat) (left : Nat → Int) : Int := sumN (fun h => max 0 (-(left h))) N
def lentP (N : Nat) (ls : Nat → Bool) (had left : Nat → Int) : Int := sumN (fun h => if ls h = true then max 0 (min (left h) (had h)) else 0) N
def canP (N : Nat) (ls : Nat → Bool) (hand : List Int) (qs : List Due8) (d : List Int) : Bool :=
  decide (lackP N (leftH hand qs d) ≤ lentP N ls (fun h => hand.getD h 0) (leftH hand qs d))
theorem lent_nonneg (N : Nat) (ls : Nat → Bool) (had left : Nat → Int) : 0 ≤ lentP N ls had left := zCY fun i _ => by (try dsimp only); split <;> omega
theorem can_of_lack {N : Nat} {ls : Nat → Bool} {hand : List Int} {qs : List Due8} {d : List Int} (h : ∀ i, i < N → 0 ≤ leftH hand qs d i) : canP N ls hand qs d = true := by
  unfold canP
  have h1 : lackP N (leftH hand qs d) = 0 := zDi fun i hi => by have := h i hi; (try dsimp only); omega
  have := lent_nonneg N ls (fun h => hand.getD h 0) (leftH hand qs d)
  simp only [decide_eq_true_eq]; omega
/-- Nothing is delivered. -/
def zeroD (qs : List Due8) : List Int := qs.map fun _ => 0
theorem zD0 : ∀ (qs : List Due8) (h : Int), netH qs (zeroD qs) h = 0
  | [], _ => rfl
  | q :: qs, h => by
    have := zD0 qs h
    simp only [zeroD, List.map_cons, netH] at this ⊢
    rw [this]; simp
theorem zCf : ∀ {qs : List Due8}, Num0 qs → listedB qs (zeroD qs) = true
  | [], _ => rfl
  | q :: qs, h => by
    have := zCf h.tail
    have hq := h q List.mem_cons_self
    simp only [zeroD] at this
    simp [zeroD, listedB, hq, this]
theorem zC5 : ∀ (i : Nat) (qs : List Due8) (d : List Int), wholeB (-1) i qs d = true
  | _, [], _ => by simp [wholeB]
  | _, _ :: _, [] => by simp [wholeB]
  | i, q :: qs, x :: d => by
    simp only [wholeB, zC5 (i + 1) qs d, Bool.and_true, Bool.or_eq_true, bne_iff_ne]
    left; omega
theorem zFW (can : List Int → Bool) (qs : List Due8) (d : List Int) : okD can (-1) qs d = can d := by simp [okD, zC5]
theorem can_zero {N : Nat} {ls : Nat → Bool} {hand : List Int} {qs : List Due8} (h : ∀ i, i < N → 0 ≤ hand.getD i 0) : canP N ls hand qs (zeroD qs) = true :=
  can_of_lack fun i hi => by have := h i hi; simp only [leftH, zD0]; omega
theorem best_ex {N : Nat} {ls : Nat → Bool} {hand : List Int} {qs : List Due8} (hn : Num0 qs) (h : ∀ i, i < N → 0 ≤ hand.getD i 0) : ∃ d n, bestD (canP N ls hand qs) (-1) qs = some (d, n) := by
  have := (best_isSome (can := canP N ls hand qs) (w := -1) hn).2 ⟨zeroD qs, zCf hn, by rw [zFW]; exact can_zero h⟩
  obtain ⟨⟨d, n⟩, h⟩ := Option.isSome_iff_exists.1 this
  exact ⟨d, n, h⟩
end Go.Proofs.YtaokpncjemkhcaaGreat
namespace Go.Proofs.YtaokpncjemkhcaaGreat
set_option linter.all false
set_option maxHeartbeats 4000000
def lexB : List Int → List Int → Bool
  | x :: a, y :: b => bif x != y then decide (x < y) else lexB a b
  | _, _ => false
theorem zB6 : ∀ {a : List Int}, lexB a a = false
  | [] => rfl
  | x :: a => by show (bif x != x then decide (x < x) else lexB a a) = false; rw [show (x != x) = false by simp]; exact zB6
theorem yr {x y : Int} {a b : List Int} : lexB (x :: a) (y :: b) = true ↔ x < y ∨ x = y ∧ lexB a b = true := by
  show (bif x != y then decide (x < y) else lexB a b) = true ↔ _
  by_cases e : x = y
  · subst e; rw [show (x != x) = false by simp]; simp
  · rw [show (x != y) = true by simpa using e]; simp [e]
theorem zFe : ∀ {l a b : List Int}, lexB (l ++ a) (l ++ b) = lexB a b
  | [], _, _ => rfl
  | x :: l, a, b => by
    show (bif x != x then decide (x < x) else lexB (l ++ a) (l ++ b)) = _
    rw [show (x != x) = false by simp]; exact zFe
theorem zGD : ∀ {a b c : List Int}, lexB a b = true → lexB b c = true → lexB a c = true
  | x :: a, y :: b, z :: c, h1, h2 => by
    rw [yr] at h1 h2 ⊢
    rcases h1 with h1 | ⟨rfl, h1⟩
    · rcases h2 with h2 | ⟨rfl, h2⟩
      · left; omega
      · left; exact h1
    · rcases h2 with h2 | ⟨rfl, h2⟩
      · left; exact h2
      · right; exact ⟨rfl, zGD h1 h2⟩
  | [], _, _, h1, _ => by cases h1
  | _ :: _, [], _, h1, _ => by cases h1
  | _ :: _, _ :: _, [], _, h2 => by cases h2
theorem zFn : ∀ {a b : List Int}, a.length = b.length → lexB a b = false → lexB b a = false → a = b
  | [], [], _, _, _ => rfl
  | x :: a, y :: b, hl, h1, h2 => by
    have n1 : ¬ (x < y ∨ x = y ∧ lexB a b = true) := fun h => by rw [yr.2 h] at h1; cases h1
    have n2 : ¬ (y < x ∨ y = x ∧ lexB b a = true) := fun h => by rw [yr.2 h] at h2; cases h2
    obtain rfl : x = y := by omega
    rw [zFn (a := a) (b := b) (by simpa using hl) (by cases h : lexB a b; rfl; exact (n1 (.inr ⟨rfl, h⟩)).elim) (by cases h : lexB b a; rfl; exact (n2 (.inr ⟨rfl, h⟩)).elim)]
  | [], _ :: _, h, _, _ => by cases h
  | _ :: _, [], h, _, _ => by cases h
/-- The search. -/
def enoughS (P : List Int → Bool) (lends : Nat → Bool) (N : Nat) : Nat → List Int → Nat → Option (List Int)
  | 0, l, _ => if P l = true then some l else none
  | k + 1, l, i => (List.range' i (N - i)).findSome? fun (h : Nat) => if lends h = true then none else enoughS P lends N k (l ++ [(h : Int)]) (h + 1)
def enoughR (P : List Int → Bool) (lends : Nat → Bool) (N : Nat) : Option (List Int) := (List.range (N + 1)).findSome? fun (k : Nat) => enoughS P lends N k [] 0
end Go.Proofs.YtaokpncjemkhcaaGreat
namespace Go.Proofs.YtaokpncjemkhcaaGreat
set_option linter.all false
/-- All ways, as the search yields them. -/
def putL (holds : List Int → Bool) (cand : Nat → List Int) : Nat → List Int → List (List Int)
  | 0, hs => if holds hs = true then [hs] else []
  | k + 1, hs => if holds hs = true then (cand hs.length).flatMap fun h => putL holds cand k (hs ++ [h]) else []
theorem zEY {holds : List Int → Bool} {cand : Nat → List Int} (h1 : ∀ l x, holds (l ++ [x]) = true → holds l = true) : ∀ (k : Nat) (hs x : List Int), (∀ l y, holds (l ++ [y]) = true → l.length < hs.length + k → y ∈ cand l.length) →
    (x ∈ putL holds cand k hs ↔ ∃ t, x = hs ++ t ∧ t.length = k ∧ holds x = true)
  | 0, hs, x, _ => by
    unfold putL
    constructor
    · intro h
      split at h
      · rename_i hh
        rw [List.mem_singleton] at h
        subst h
        exact ⟨[], by simp, rfl, hh⟩
      · cases h
    · rintro ⟨t, rfl, ht, hh⟩
      obtain rfl : t = [] := by simpa using ht
      rw [List.append_nil] at hh ⊢
      rw [if_pos hh]; exact List.mem_singleton.2 rfl
  | k + 1, hs, x, h2 => by
    have hpre : ∀ (t l : List Int), holds (l ++ t) = true → holds l = true := fun t => by
      induction t with
      | nil => intro l h; rwa [List.append_nil] at h
      | cons a t ih =>
        intro l h
        exact h1 l a (ih (l ++ [a]) (by rwa [List.append_assoc]))
    unfold putL
    constructor
    · intro h
      split at h
      · obtain ⟨a, ha, hx⟩ := List.mem_flatMap.1 h
        obtain ⟨t, rfl, ht, hh⟩ := (zEY h1 k (hs ++ [a]) x fun l y hl hlt => h2 l y hl (by simp only [List.length_append, List.length_cons, List.length_nil] at hlt; omega)).1 hx
        exact ⟨a :: t, by rw [List.append_assoc]; rfl, by simp [ht], hh⟩
      · cases h
    · rintro ⟨t, rfl, ht, hh⟩
      rw [if_pos (hpre t hs hh)]
      cases t with
      | nil => cases ht
      | cons a t =>
        have he : hs ++ a :: t = (hs ++ [a]) ++ t := by rw [List.append_assoc]; rfl
        rw [List.mem_flatMap]
        refine ⟨a, h2 hs a (hpre t _ (by rw [← he]; exact hh)) (by omega), ?_⟩
        exact (zEY h1 k (hs ++ [a]) _ fun l y hl hlt => h2 l y hl (by simp only [List.length_append, List.length_cons, List.length_nil] at hlt; omega)).2 ⟨t, he, by simpa using ht, hh⟩
/-- Those that were not there yet are added. -/
def addNew (out : List (List Int)) (h : List Int) : List (List Int) := if (out.any fun x => x == h) = true then out else out ++ [h]
theorem addNew_mem {out : List (List Int)} {h x : List Int} : x ∈ addNew out h ↔ x ∈ out ∨ x = h := by
  unfold addNew
  split
  · rename_i hc
    rw [List.any_eq_true] at hc
    obtain ⟨y, hy, e⟩ := hc
    have := eq_of_beq e
    subst this
    constructor
    · exact .inl
    · rintro (h | rfl)
      · exact h
      · exact hy
  · simp
theorem kT {f : List Int → List Int} : ∀ (L : List (List Int)) (out : List (List Int)) (x : List Int), x ∈ L.foldl (fun o p => addNew o (f p)) out ↔ x ∈ out ∨ ∃ p ∈ L, x = f p
  | [], out, x => by simp
  | p :: L, out, x => by
    rw [List.foldl_cons, kT L, addNew_mem]
    simp only [List.mem_cons, exists_eq_or_imp, or_assoc]
theorem zA4 {f : List Int → List Int} : ∀ (L : List (List Int)) (out : List (List Int)), out.Nodup → (L.foldl (fun o p => addNew o (f p)) out).Nodup
  | [], out, h => h
  | p :: L, out, h => by
    rw [List.foldl_cons]
    refine zA4 L _ ?_
    unfold addNew
    split
    · exact h
    · rename_i hc
      rw [List.nodup_append]
      refine ⟨h, by simp, fun a ha b hb => ?_⟩
      rw [List.mem_singleton] at hb
      subst hb
      intro e
      subst e
      exact hc (List.any_eq_true.2 ⟨_, ha, beq_self_eq_true _⟩)
def Sorted8 (l : List (List Int)) : Prop := l.Pairwise fun a b => lexB a b = true
theorem lex_anti {a b : List Int} (h : lexB a b = true) : lexB b a = false := by
  cases hb : lexB b a with
  | false => rfl
  | true => have := zGD h hb; rw [zB6] at this; cases this
theorem zDn : ∀ {a b : List (List Int)}, Sorted8 a → Sorted8 b → (∀ x, x ∈ a ↔ x ∈ b) → a = b
  | [], [], _, _, _ => rfl
  | [], y :: b, _, _, h => by have := (h y).2 List.mem_cons_self; cases this
  | x :: a, [], _, _, h => by have := (h x).1 List.mem_cons_self; cases this
  | x :: a, y :: b, ha, hb, h => by
    unfold Sorted8 at ha hb
    rw [List.pairwise_cons] at ha hb
    have hxy : x = y := by
      rcases List.mem_cons.1 ((h x).1 List.mem_cons_self) with e | e
      · exact e
      · rcases List.mem_cons.1 ((h y).2 List.mem_cons_self) with f | f
        · exact f.symm
        · have h1 := hb.1 x e; have h2 := ha.1 y f
          rw [lex_anti h1] at h2; cases h2
    subst hxy
    congr 1
    refine zDn ha.2 hb.2 fun z => ⟨fun hz => ?_, fun hz => ?_⟩
    · rcases List.mem_cons.1 ((h z).1 (List.mem_cons_of_mem _ hz)) with e | e
      · have := ha.1 z hz; rw [e, zB6] at this; cases this
      · exact e
    · rcases List.mem_cons.1 ((h z).2 (List.mem_cons_of_mem _ hz)) with e | e
      · have := hb.1 z hz; rw [e, zB6] at this; cases this
      · exact e
/-- A number as digits in base 5. -/
def digs : Nat → Nat → List Int
  | 0, _ => []
  | N + 1, n => digs N (n / 5) ++ [((n % 5 : Nat) : Int)]
theorem zEz : ∀ (N n : Nat), (digs N n).length = N
  | 0, _ => rfl
  | N + 1, n => by simp [digs, zEz N]
theorem zFN : ∀ {a b x y : List Int}, lexB a b = true → lexB (a ++ x) (b ++ y) = true
  | [], _, _, _, h => by cases h
  | _ :: _, [], _, _, h => by cases h
  | p :: a, q :: b, x, y, h => by
    rw [List.cons_append, List.cons_append, yr]
    rw [yr] at h
    rcases h with h | ⟨e, h⟩
    · exact .inl h
    · exact .inr ⟨e, zFN h⟩
theorem zE2 : ∀ (N : Nat) {a b : Nat}, a < b → b < 5 ^ N → lexB (digs N a) (digs N b) = true
  | 0, a, b, h, hb => by simp at hb; omega
  | N + 1, a, b, h, hb => by
    rw [Nat.pow_succ] at hb
    unfold digs
    by_cases e : a / 5 = b / 5
    · rw [e, zFe, yr]
      left
      omega
    · exact zFN (zE2 N (by omega) (by omega))
theorem zE5 : ∀ (N : Nat) (l : List Int), l.length = N → (∀ x ∈ l, 0 ≤ x ∧ x ≤ 4) → ∃ n, n < 5 ^ N ∧ digs N n = l
  | 0, l, h, _ => ⟨0, by simp, by rw [List.length_eq_zero_iff.1 h]; rfl⟩
  | N + 1, l, h, hl => by
    obtain ⟨m, x, rfl⟩ : ∃ m x, l = m ++ [x] := ⟨l.dropLast, l.getLast (by intro e; rw [e] at h; cases h), (List.dropLast_concat_getLast _).symm⟩
    have hx := hl x (by simp)
    obtain ⟨n, hn, e⟩ := zE5 N m (by simpa using h) fun y hy => hl y (List.mem_append_left _ hy)
    refine ⟨n * 5 + x.toNat, by rw [Nat.pow_succ]; omega, ?_⟩
    unfold digs
    rw [show (n * 5 + x.toNat) / 5 = n by omega, show (n * 5 + x.toNat) % 5 = x.toNat by omega, e, show ((x.toNat : Nat) : Int) = x by omega]
/-- The reference's list. -/
def refHandsL (N : Nat) (is : List Int → Bool) : List (List Int) := ((List.range (5 ^ N)).map (digs N)).filter is
theorem refHands_sorted (N : Nat) (is : List Int → Bool) : Sorted8 (refHandsL N is) := by
  unfold Sorted8 refHandsL
  refine List.Pairwise.filter _ ?_
  rw [List.pairwise_map]
  refine List.pairwise_iff_getElem.2 fun i j hi hj hij => ?_
  simp only [List.length_range] at hi hj
  simp only [List.getElem_range]
  exact zE2 N hij hj
theorem zBj {N : Nat} {is : List Int → Bool} {l : List Int} (his : ∀ l, is l = true → l.length = N → ∀ x ∈ l, 0 ≤ x ∧ x ≤ 4) : l ∈ refHandsL N is ↔ l.length = N ∧ is l = true := by
  unfold refHandsL
  rw [List.mem_filter, List.mem_map]
  constructor
  · rintro ⟨⟨n, _, rfl⟩, h⟩; exact ⟨zEz _ _, h⟩
  · rintro ⟨h1, h2⟩
    obtain ⟨n, hn, e⟩ := zE5 N l h1 (his l h2 h1)
    exact ⟨⟨n, List.mem_range.2 hn, e⟩, h2⟩
/-- Sorted hands with the same members are the reference's. -/
theorem hands_law {N : Nat} {is : List Int → Bool} {H : List (List Int)} (hs : Sorted8 H) (his : ∀ l, is l = true → l.length = N → ∀ x ∈ l, 0 ≤ x ∧ x ≤ 4) (hm : ∀ l, l ∈ H ↔ l.length = N ∧ is l = true) : H = refHandsL N is :=
  zDn hs (refHands_sorted N is) fun l => by rw [hm, zBj his]
end Go.Proofs.YtaokpncjemkhcaaGreat
namespace Go.Proofs.YtaokpncjemkhcaaGreat
set_option linter.all false
def buyR (lo : Int) (ns : List Int) : Int × Int := ns.foldl (fun p n => (min p.1 n, max p.2 n)) (lo, 0)
theorem zE7 : ∀ (ns : List Int) (a b : Int), (ns.foldl (fun p n => (min p.1 n, max p.2 n)) (a, b)).1 ≤ a ∧ b ≤ (ns.foldl (fun p n => (min p.1 n, max p.2 n)) (a, b)).2 ∧
    (∀ n ∈ ns, (ns.foldl (fun p n => (min p.1 n, max p.2 n)) (a, b)).1 ≤ n ∧ n ≤ (ns.foldl (fun p n => (min p.1 n, max p.2 n)) (a, b)).2) ∧
    ((ns.foldl (fun p n => (min p.1 n, max p.2 n)) (a, b)).1 = a ∨ (ns.foldl (fun p n => (min p.1 n, max p.2 n)) (a, b)).1 ∈ ns) ∧
    ((ns.foldl (fun p n => (min p.1 n, max p.2 n)) (a, b)).2 = b ∨ (ns.foldl (fun p n => (min p.1 n, max p.2 n)) (a, b)).2 ∈ ns)
  | [], a, b => ⟨Int.le_refl _, Int.le_refl _, fun _ h => (by cases h), .inl rfl, .inl rfl⟩
  | x :: ns, a, b => by
    obtain ⟨h1, h2, h3, h4, h5⟩ := zE7 ns (min a x) (max b x)
    rw [List.foldl_cons]
    refine ⟨by dsimp only at *; omega, by dsimp only at *; omega, fun n hn => ?_, ?_, ?_⟩
    · rcases List.mem_cons.1 hn with rfl | hn
      · dsimp only at *; omega
      · exact h3 n hn
    · rcases h4 with h4 | h4
      · by_cases ha : a ≤ x
        · left; dsimp only at *; omega
        · right; rw [List.mem_cons]; left; dsimp only at *; omega
      · exact .inr (List.mem_cons_of_mem _ h4)
    · rcases h5 with h5 | h5
      · by_cases ha : x ≤ b
        · left; dsimp only at *; omega
        · right; rw [List.mem_cons]; left; dsimp only at *; omega
      · exact .inr (List.mem_cons_of_mem _ h5)
/-- The least and the greatest of some numbers that are from 0 to hi. -/
theorem buy_ok {ns : List Int} {lo : Int} (hne : ns ≠ []) (hb : ∀ n ∈ ns, 0 ≤ n ∧ n ≤ lo) : (∀ n ∈ ns, (buyR lo ns).1 ≤ n ∧ n ≤ (buyR lo ns).2) ∧ (buyR lo ns).1 ∈ ns ∧ (buyR lo ns).2 ∈ ns := by
  obtain ⟨h1, h2, h3, h4, h5⟩ := zE7 ns lo 0
  obtain ⟨x, l, rfl⟩ : ∃ x l, ns = x :: l := by cases ns with | nil => exact (hne rfl).elim | cons x l => exact ⟨x, l, rfl⟩
  refine ⟨h3, ?_, ?_⟩
  · rcases h4 with h4 | h4
    · have := h3 x List.mem_cons_self
      have := hb x List.mem_cons_self
      have e : (buyR lo (x :: l)).1 = x := by unfold buyR; omega
      rw [e]; exact List.mem_cons_self
    · exact h4
  · rcases h5 with h5 | h5
    · have := h3 x List.mem_cons_self
      have := hb x List.mem_cons_self
      have e : (buyR lo (x :: l)).2 = x := by unfold buyR; omega
      rw [e]; exact List.mem_cons_self
    · exact h5
/-- The verdict on a due, from what is so with each hand. -/
def verdB (l : List Bool) : Int := if l.all id = true then 1 else if l.any id = true then 3 else 2
def setAll (lends : List Bool) (more : List Int) : List Bool := more.foldl (fun l h => l.set h.toNat true) lends
theorem zAh : ∀ (more : List Int) (lends : List Bool), (setAll lends more).length = lends.length
  | [], _ => rfl
  | x :: more, lends => by
    have := zAh more (lends.set x.toNat true)
    unfold setAll at this ⊢
    rw [List.foldl_cons, this]; simp
def wholeP (N : Nat) (lends : List Bool) (hands : List (List Int)) (qs : List Due8) (more : List Int) : Bool := hands.all fun h => canP N (fun i => (setAll lends more).getD i false) h qs (fullD qs)
end Go.Proofs.YtaokpncjemkhcaaGreat
namespace Go.Proofs.YtaokpncjemkhcaaGreat
open Go.RowKit
structure Ent5 where
  kind : Int
  sheet : Int
  frm : Int
  to : Int
  lo : Int
  hi : Int
structure Sight5 where
  sheet : Int
  house : Int
  day : Int
structure Reg where
  houses : Int
  start : List Int
  entries : List Ent5
  sights : List Sight5
@[reducible] def intE (n : Int) : List D := [.int .i64 n]
@[reducible] def entE (e : Ent5) : List D := [.int .i64 e.kind, .int .i64 e.sheet, .int .i64 e.frm, .int .i64 e.to, .int .i64 e.lo, .int .i64 e.hi]
@[reducible] def sightE (s : Sight5) : List D := [.int .i64 s.sheet, .int .i64 s.house, .int .i64 s.day]
@[reducible] def ints (l : List Int) : D := .slice 1 (l.map intE)
@[reducible] def entsD (l : List Ent5) : D := .slice 6 (l.map entE)
@[reducible] def sightsD (l : List Sight5) : D := .slice 3 (l.map sightE)
@[reducible] def regC (r : Reg) : List D := [.int .i64 r.houses, ints r.start, entsD r.entries, sightsD r.sights]
@[reducible] def regD (r : Reg) : D := .agg (regC r)
@[reducible] def doneE (n : Nat) : List D := [.int .u64 n]
@[reducible] def donesD (l : List Nat) : D := .slice 1 (l.map doneE)
def iw (n : Int) : Int := IntKind.i64.wrap n
theorem iw_of {n : Int} (h : -9223372036854775808 ≤ n ∧ n ≤ 9223372036854775807) : iw n = n := i64w h rfl
theorem mget {α β : Type} {l : List α} {f : α → β} {i : Nat} {x : α} (h : l[i]? = some x) : (l.map f)[i]? = some (f x) := by simp [h]
theorem yL {α : Type} {l : List α} {p : α → Bool} {i : Nat} {x : α} (h : l[i]? = some x) (ha : (l.take i).all p = true) (hx : p x = true) : (l.take (i + 1)).all p = true := by
  rw [List.take_add_one, h]
  simp [ha, hx]
theorem z7 {α : Type} {l : List α} {i : Nat} (h : i < l.length) : ∃ x, l[i]? = some x := ⟨_, List.getElem?_eq_getElem h⟩
theorem zA3 {α β : Type} {l : List α} {f : α → β} {p : α → Bool} {i : Nat} (h : ((l.map f).length : Int) ≤ (i : Int)) (hi : i ≤ l.length) (ha : (l.take i).all p = true) : l.all p = true := by
  have e : i = l.length := by simp only [List.length_map] at h; omega
  subst e
  simpa using ha
/-- The index of the first element that is so, or -1. -/
def idxOf {α : Type} (p : α → Bool) (l : List α) : Int := match l.findIdx? p with
  | some i => (i : Int)
  | none => -1
theorem y5 {α : Type} {p : α → Bool} {l : List α} {i : Nat} {x : α} (h : l[i]? = some x) (ha : (l.take i).all (fun x => !p x) = true) (hx : p x = true) : idxOf p l = i := by
  have : l.findIdx? p = some i := by
    rw [List.findIdx?_eq_some_iff_getElem]
    obtain ⟨hlt, rfl⟩ := List.getElem?_eq_some_iff.1 h
    refine ⟨hlt, hx, fun j hj => ?_⟩
    have := List.all_eq_true.1 ha l[j] (by rw [List.mem_take_iff_getElem]; exact ⟨j, by omega, rfl⟩)
    simpa using this
  simp [idxOf, this]
theorem yj {α : Type} {p : α → Bool} {l : List α} (ha : l.all (fun x => !p x) = true) : idxOf p l = -1 := by
  have : l.findIdx? p = none := by
    rw [List.findIdx?_eq_none_iff]
    intro x hx
    simpa using List.all_eq_true.1 ha x hx
  simp [idxOf, this]
theorem yZ {α : Type} {p : α → Bool} {l : List α} : decide (0 ≤ idxOf p l) = l.any p := by
  unfold idxOf
  cases h : l.findIdx? p with
  | none =>
    rw [List.findIdx?_eq_none_iff] at h
    have : l.any p = false := by
      rw [List.any_eq_false]
      intro x hx
      simp [h x hx]
    simp [this]
  | some i =>
    have : l.any p = true := by
      rw [List.findIdx?_eq_some_iff_getElem] at h
      obtain ⟨hlt, hx, _⟩ := h
      exact List.any_eq_true.2 ⟨_, List.getElem_mem hlt, hx⟩
    simp [this]
end Go.Proofs.YtaokpncjemkhcaaGreat
