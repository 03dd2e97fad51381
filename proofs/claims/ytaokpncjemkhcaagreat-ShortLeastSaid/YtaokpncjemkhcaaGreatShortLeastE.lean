/-
  A part of the proof that contangolaw.ShortLeast returns true: what the last text needs, and no more. No condition: no statement of the seat is proved here.
-/
import Derived.Carry
import Derived.ProofKit
import Derived.OpenShut
import Derived.Deep.Slices
import Derived.JoinedOf
import Derived.JoinedAt
import Derived.SizedLaws
import Derived.Test.YtaokpncjemkhcaaGreatShortLeastD
namespace Go.Proofs.YtaokpncjemkhcaaGreat
open Go.ChangeShapes Go.WideShapes Go.ChangeAt Go.RowKit
set_option linter.all false
/-- All cells that there are. -/
def live (w : World) (b o : Nat) : Prop := ∃ v, w.cell? ⟨b, o, none⟩ = some v
/-- Cells of a type are read as plain data of a form. -/
def Opens (P : Program) (t : TypeId) (S : List D → Prop) : Prop :=
  ∀ {H : Type} (enc : TypeId × Value → H) (w : World) (base : Nat) (spare : Nat → Bool) (held : Bool) (fuel : Nat) (cs : List Value) (x : DataW H × List MemPlace),
    DataW.trod enc P w base spare held fuel t cs = some x → (x.1.weights P t).all (· ≤ reachBytes) = true → ∃ ds, S ds ∧ RepVals (live w) w ds cs ∧ ∀ v ∈ cs, v.oneCell' = true
theorem zDA {P : Program} {t : TypeId} {k : IntKind} (ht : P.underlying t = some (.int k)) : Opens P t fun ds => ∃ n, ds = [.int k n] ∧ (Lit.int k n).wf = true := by
  intro H enc w base spare held fuel cs x h hz
  obtain ⟨n, rfl, _, hw⟩ := DataW.trod_int ht h
  exact ⟨_, ⟨n, rfl, hw⟩, ⟨_, _, rfl, rfl, rfl⟩, fun v hv => by simp at hv; subst hv; rfl⟩
theorem opens_bool {P : Program} {t : TypeId} (ht : P.underlying t = some .bool) : Opens P t fun ds => ∃ b, ds = [.bool b] := by
  intro H enc w base spare held fuel cs x h hz
  obtain ⟨b, rfl, _⟩ := DataW.trod_bool ht h
  exact ⟨_, ⟨b, rfl⟩, ⟨_, _, rfl, rfl, rfl⟩, fun v hv => by simp at hv; subst hv; rfl⟩
theorem zDi {w : World} {a : Addr} {v : Value} (h : w.cell? a = some v) : a = ⟨a.block, a.off, none⟩ := by
  obtain ⟨b, o, s⟩ := a
  cases s with
  | none => rfl
  | some q =>
    simp only [World.cell?] at h
    split at h
    · simp at h
    · cases h
theorem cells_rep {w : World} {base : Nat} {a : Addr} {n b o : Nat} {cs : List Value} {ds : List D} (ha : a = ⟨b, o, none⟩) (h : w.cells? base a n = some cs) (hr : RepVals (live w) w ds cs) (h1 : ∀ v ∈ cs, v.oneCell' = true) : RepCells (live w) w ds b o := by
  obtain ⟨_, hlen, hc⟩ := World.cells?_some h
  refine RepCells.of_vals hr h1 fun j v hj => ?_
  have hjl := (List.getElem?_eq_some_iff.1 hj).1
  have := hc j (by omega)
  rw [hj, ha] at this
  have e : (⟨b, o, none⟩ : Addr).add j = ⟨b, o + j, none⟩ := by
    unfold Addr.add
    split
    · subst_vars; rfl
    · rfl
  rw [e] at this
  exact ⟨this, v, this⟩
theorem zEn {w : World} {sz b : Nat} : ∀ {n o : Nat} {F : Nat → List D}, (∀ i, i < n → (F i).length = sz ∧ RepCells (live w) w (F i) b (o + i * sz)) → RepRows (live w) w ((List.range n).map F) b o sz
  | 0, _, _, _ => trivial
  | n + 1, o, F, h => by
    rw [List.range_succ_eq_map, List.map_cons, List.map_map]
    refine ⟨(h 0 (by omega)).1, by have := (h 0 (by omega)).2; simpa using this, ?_⟩
    exact zEn (F := F ∘ Nat.succ) fun i hi => ⟨(h (i + 1) (by omega)).1, by
      have := (h (i + 1) (by omega)).2
      rw [show o + sz + i * sz = o + (i + 1) * sz by rw [Nat.succ_mul]; omega]
      exact this⟩
theorem zAh {H : Type} {P : Program} {e : TypeId} {p : Nat → Bool} {d : DataW H} : ∀ {l : List (DataW H)}, (DataW.weightsAll P e l).all p = true → d ∈ l → (d.weights P e).all p = true
  | x :: l, h, hd => by
    simp only [DataW.weightsAll, List.all_append, Bool.and_eq_true] at h
    rcases List.mem_cons.1 hd with rfl | hd
    · exact h.1
    · exact zAh h.2 hd
theorem kH {P : Program} {t e : TypeId} {sz : Nat} {S : List D → Prop} (ht : P.underlying t = some (.slice e)) (hc : P.cellsOf e = sz) (hsz : 0 < sz) (hS : ∀ ds, S ds → ds.length = sz) (he : Opens P e S) :
    Opens P t fun ds => ∃ es : List (List D), ds = [.slice sz es] ∧ es.length * P.bytesOf e ≤ reachBytes ∧ ∀ c ∈ es, S c := by
  intro H enc w base spare held fuel cs x h hz
  rcases Go.Deep.open_slice ht h with ⟨rfl, _⟩ | ⟨a, len, cap, m, n, Dt, Pl, rfl, hb, hl, hm, hmm, hx, hi⟩
  · exact ⟨_, ⟨[], rfl, by simp, fun c hc => by cases hc⟩, ⟨_, _, rfl, ⟨none, 0, rfl, Nat.le_refl _, Nat.zero_le _, .inl rfl⟩, rfl⟩, fun v hv => by simp at hv; subst hv; rfl⟩
  · have hlm : len ≤ m := by rw [hmm]; split <;> omega
    rw [hc] at hi
    rw [hx] at hz
    simp only [DataW.weights, ht, List.all_cons, List.all_append, Bool.and_eq_true, decide_eq_true_eq] at hz
    obtain ⟨hz1, hz2, hz3⟩ := hz
    have hzl : len * P.bytesOf e ≤ reachBytes := Nat.le_trans (Nat.mul_le_mul_right _ (by simp)) hz1
    have key : ∀ i, ∃ ds, i < len → S ds ∧ RepCells (live w) w ds a.block (a.off + i * sz) ∧ ∃ v, w.cell? (a.add (i * sz)) = some v := fun i => by
      by_cases hlt : i < len
      · obtain ⟨cs', h1, h2⟩ := hi i (by omega)
        obtain ⟨ds, k1, k2, k3⟩ := he enc w base spare held n cs' _ h2 (zAh hz2 (List.mem_map.2 ⟨i, List.mem_range.2 hlt, rfl⟩))
        obtain ⟨_, hlen, hcell⟩ := World.cells?_some h1
        obtain ⟨v, hv⟩ : ∃ v, w.cell? (a.add (i * sz)) = some v := by
          have := hcell 0 hsz
          rw [show (a.add (i * sz)).add 0 = a.add (i * sz) from rfl, List.getElem?_eq_getElem (by omega)] at this
          exact ⟨_, this⟩
        have hn := zDi hv
        have e1 : (a.add (i * sz)).block = a.block := by unfold Addr.add; split <;> rfl
        have e2 : (a.add (i * sz)).off = a.off + i * sz := by
          unfold Addr.add
          split
          · rename_i hz
            rw [hz]
            rfl
          · rfl
        rw [e1, e2] at hn
        exact ⟨ds, fun _ => ⟨k1, cells_rep hn h1 k2 k3, v, hv⟩⟩
      · exact ⟨[], fun h => absurd h hlt⟩
    let F : Nat → List D := fun i => Classical.choose (key i)
    have hF : ∀ i, i < len → S (F i) ∧ RepCells (live w) w (F i) a.block (a.off + i * sz) ∧ ∃ v, w.cell? (a.add (i * sz)) = some v := fun i => Classical.choose_spec (key i)
    refine ⟨_, ⟨(List.range len).map F, rfl, by simpa using hzl, fun c hc => ?_⟩, ⟨_, _, rfl, ⟨some a, cap, by simp, by simpa using hl, hm, ?_⟩, rfl⟩, fun v hv => by simp at hv; subst hv; rfl⟩
    · obtain ⟨i, hi, rfl⟩ := List.mem_map.1 hc
      exact (hF i (by simpa using hi)).1
    · by_cases h0 : len = 0
      · subst h0; exact .inl rfl
      · obtain ⟨_, _, v, hv⟩ := hF 0 (by omega)
        rw [show a.add (0 * sz) = a by rw [Nat.zero_mul]; rfl] at hv
        refine .inr ⟨a.block, a.off, by rw [← zDi hv], zEn fun i hi => ⟨hS _ (hF i hi).1, (hF i hi).2.1⟩⟩
/-- Lists of data, one behind the other. -/
def Parts : List (List D → Prop) → List D → Prop
  | [], ds => ds = []
  | S :: Ss, ds => ∃ a b, ds = a ++ b ∧ S a ∧ Parts Ss b
def FieldsOpen (P : Program) : Nat → List Field → List (List D → Prop) → Prop
  | _, [], [] => True
  | o, f :: fs, S :: Ss => f.offset = o ∧ Opens P f.type S ∧ FieldsOpen P (o + P.cellsOf f.type) fs Ss
  | _, _, _ => False
def offEnd (P : Program) : Nat → List Field → Nat
  | o, [] => o
  | o, f :: fs => offEnd P (o + P.cellsOf f.type) fs
theorem zDh {H : Type} {enc : TypeId × Value → H} {P : Program} {w : World} {base : Nat} {spare : Nat → Bool} {held : Bool} {n : Nat} {cs : List Value} : ∀ {fs : List Field} {Ss : List (List D → Prop)} {o : Nat}, FieldsOpen P o fs Ss → cs.length = offEnd P o fs →
    (∀ f ∈ fs, ∃ y, DataW.trod enc P w base spare held n f.type ((cs.drop f.offset).take (P.cellsOf f.type)) = some y ∧ (y.1.weights P f.type).all (· ≤ reachBytes) = true) → ∃ ds, Parts Ss ds ∧ RepVals (live w) w ds (cs.drop o) ∧ ∀ v ∈ cs.drop o, v.oneCell' = true
  | [], [], o, _, hl, _ => ⟨[], rfl, by simp only [offEnd] at hl; rw [List.drop_of_length_le (by omega)]; rfl, fun v hv => by simp only [offEnd] at hl; rw [List.drop_of_length_le (by omega)] at hv; cases hv⟩
  | [], _ :: _, _, h, _, _ => h.elim
  | _ :: _, [], _, h, _, _ => h.elim
  | f :: fs, S :: Ss, o, ⟨ho, hS, hF⟩, hl, hy => by
    obtain ⟨y, hy1, hyz⟩ := hy f List.mem_cons_self
    rw [ho] at hy1
    obtain ⟨a, ka, kb, kc⟩ := hS enc w base spare held n _ _ hy1 hyz
    obtain ⟨b, q1, q2, q3⟩ := zDh (enc := enc) (w := w) (base := base) (spare := spare) (held := held) (n := n) hF hl fun g hg => hy g (List.mem_cons_of_mem _ hg)
    have e : cs.drop o = (cs.drop o).take (P.cellsOf f.type) ++ cs.drop (o + P.cellsOf f.type) := by
      rw [← List.drop_drop, List.take_append_drop]
    refine ⟨a ++ b, ⟨a, b, rfl, ka, q1⟩, by rw [e]; exact kb.append q2, fun v hv => ?_⟩
    rw [e] at hv
    rcases List.mem_append.1 hv with hv | hv
    · exact kc v hv
    · exact q3 v hv
theorem yi {P : Program} {t : TypeId} {fs : Array Field} {Ss : List (List D → Prop)} (ht : P.underlying t = some (.struct fs)) (hF : FieldsOpen P 0 fs.toList Ss) (hc : P.cellsOf t = offEnd P 0 fs.toList) : Opens P t (Parts Ss) := by
  intro H enc w base spare held fuel cs x h hz
  obtain ⟨xs, n, _, hx, hl, hxs, hf⟩ := DataW.trod_struct ht h
  rw [hx] at hz
  simp only [DataW.weights, ht] at hz
  have := zDh (enc := enc) (w := w) (base := base) (spare := spare) (held := held) (n := n) (cs := cs) hF (by rw [hl, hc]) fun f hfm => by
    obtain ⟨i, hi⟩ := List.getElem?_of_mem hfm
    have hi' : fs[i]? = some f := by simpa using hi
    have hlt := (Array.getElem?_eq_some_iff.1 hi').1
    refine ⟨xs[i]'(by omega), by rw [hf i f hi', List.getElem?_eq_getElem], List.all_eq_true.2 fun q hq => List.all_eq_true.1 hz q (DataW.weights_mem_each (j := i) (t := f.type) (d := (xs[i]'(by omega)).1) (by rw [List.getElem?_map, hi]; rfl) (by rw [List.getElem?_map, List.getElem?_eq_getElem (by omega)]; rfl) q hq)⟩
  simpa using this
/-- A parameter of a type is read as plain data of a form. -/
def OpensP (P : Program) (t : TypeId) (S : D → Prop) : Prop :=
  ∀ {H : Type} (enc : TypeId × Value → H) (w : World) (r : Reach) (b0 base : Nat) (spare : Nat → Bool) (held : Bool) (v : Value) (d : DataW H) (p : List MemPlace),
    Value.okWide P w r b0 t v → DataW.Trod enc P w base spare held t v d p → (d.weights P t).all (· ≤ reachBytes) = true → ∃ x, S x ∧ Rep (live w) w x v
theorem opensP_struct {P : Program} {t : TypeId} {fs : Array Field} {S : List D → Prop} (ht : P.underlying t = some (.struct fs)) (h : Opens P t S) : OpensP P t fun d => ∃ ds, d = .agg ds ∧ S ds := by
  intro H enc w r b0 base spare held v d p hv ⟨fuel, hr⟩ hz
  obtain ⟨cs, rfl, _⟩ := okWide_struct ht hv
  obtain ⟨ds, k1, k2, k3⟩ := h enc w base spare held fuel _ _ hr hz
  exact ⟨_, ⟨ds, rfl, k1⟩, cs.toList, rfl, k2, k3⟩
theorem opensP_one {P : Program} {t : TypeId} {S : List D → Prop} {S' : D → Prop} (hone : ∀ {w : World} {r : Reach} {b0 : Nat} {v : Value}, Value.okWide P w r b0 t v → v.cells = #[v]) (h : Opens P t S) (hS : ∀ ds, S ds → ∃ x, ds = [x] ∧ S' x) : OpensP P t S' := by
  intro H enc w r b0 base spare held v d p hv ⟨fuel, hr⟩ hz
  rw [hone hv] at hr
  obtain ⟨ds, k1, k2, k3⟩ := h enc w base spare held fuel _ _ hr hz
  obtain ⟨x, rfl, hx⟩ := hS ds k1
  obtain ⟨u, us, e, hu, _⟩ := k2
  simp at e
  exact ⟨x, hx, by rw [e.1]; exact hu⟩
theorem opensP_int {P : Program} {t : TypeId} {k : IntKind} (ht : P.underlying t = some (.int k)) : OpensP P t fun d => ∃ n, d = .int k n ∧ (Lit.int k n).wf = true :=
  opensP_one (fun hv => by obtain ⟨n, rfl⟩ := okWide_int ht hv; rfl) (zDA ht) fun _ ⟨n, e, hw⟩ => ⟨_, e, n, rfl, hw⟩
def Sat : List (D → Prop) → List D → Prop
  | [], ds => ds = []
  | S :: Ss, ds => ∃ d ds', ds = d :: ds' ∧ S d ∧ Sat Ss ds'
def OpensAll (P : Program) : List TypeId → List (D → Prop) → Prop
  | [], [] => True
  | t :: ts, S :: Ss => OpensP P t S ∧ OpensAll P ts Ss
  | _, _ => False
theorem zDB {H : Type} {enc : TypeId × Value → H} {P : Program} {w : World} {b0 base : Nat} {spare : Nat → Bool} {held : Bool} : ∀ {ts : List TypeId} {Ss : List (D → Prop)} {vs : List Value} {ds : List (DataW H)} {p : List MemPlace}, OpensAll P ts Ss → DataW.TrodAll enc P w base spare held ts vs ds p →
    (∀ (j : Nat) t v, ts[j]? = some t → vs[j]? = some v → Value.okWide P w .any b0 t v) → (DataW.weightsEach P ts ds).all (· ≤ reachBytes) = true → ∃ xs, Sat Ss xs ∧ RepVals (live w) w xs vs
  | [], [], _, _, _, _, h, _, _ => by
    obtain ⟨rfl, _, _⟩ := trodAll_nil h
    exact ⟨[], rfl, rfl⟩
  | [], _ :: _, _, _, _, h, _, _, _ => h.elim
  | _ :: _, [], _, _, _, h, _, _, _ => h.elim
  | t :: ts, S :: Ss, _, _, _, ⟨h1, h2⟩, h, hv, hz => by
    obtain ⟨v, vs, d, ds, p, q, rfl, rfl, rfl, k1, k2⟩ := trodAll_cons h
    simp only [DataW.weightsEach, List.all_append, Bool.and_eq_true] at hz
    obtain ⟨x, s1, s2⟩ := h1 enc w .any b0 base spare held v d p (hv 0 t v rfl rfl) k1 hz.1
    obtain ⟨xs, s3, s4⟩ := zDB (b0 := b0) h2 k2 (fun j t v hj hv' => hv (j + 1) t v (by simpa using hj) (by simpa using hv')) hz.2
    exact ⟨x :: xs, ⟨x, xs, rfl, s1, s3⟩, v, vs, rfl, s2, s4⟩
theorem zA8 {H : Type} {enc : TypeId × Value → H} {P : Program} (hl : laidOutB P = true) {W W' : World} (hb : Below W.heap.size W W') : ∀ {ts : List TypeId} {vs : List Value} {ds : List (DataW H)} {p : List MemPlace}, (ts.all fun t => P.readableRec t && decide (t < P.types.size)) = true → (∀ x ∈ p, x.block < W.heap.size) →
    DataW.TrodAll enc P W 0 (fun _ => true) true ts vs ds p → DataW.TrodAll enc P W' 0 (fun b => decide (b < W.heap.size)) true ts vs ds p
  | [], _, _, _, _, _, h => by
    obtain ⟨rfl, rfl, rfl⟩ := trodAll_nil h
    exact trodAll_mk0
  | t :: ts, _, _, _, ht, hp, h => by
    obtain ⟨v, vs, d, ds, p, q, rfl, rfl, rfl, k1, k2⟩ := trodAll_cons h
    simp only [List.all_cons, Bool.and_eq_true, decide_eq_true_eq] at ht
    exact ⟨p, q, Below.trod hl ht.1.1 ht.1.2 k1 hb fun x hx => hp x (List.mem_append_left _ hx), zA8 hl hb (by simpa using ht.2) (fun x hx => hp x (List.mem_append_right _ hx)) k2, rfl⟩
theorem zCO {H : Type} {enc : TypeId × Value → H} {P : Program} {w : World} {base : Nat} {spare : Nat → Bool} {held : Bool} : ∀ {ts : List TypeId} {vs : List Value} {ds : List (DataW H)} {p : List MemPlace}, DataW.TrodAll enc P w base spare held ts vs ds p → ds.length = ts.length
  | [], _, _, _, h => by
    obtain ⟨_, rfl, _⟩ := trodAll_nil h
    rfl
  | t :: ts, _, _, _, h => by
    obtain ⟨v, vs, d, ds, p, q, rfl, rfl, rfl, k1, k2⟩ := trodAll_cons h
    simp [zCO k2]
/-- What a law's row asks of one call, out of a contract. -/
theorem law_contract {H : Type} {enc : TypeId × Value → H} {P : Program} {f : FuncId} {fn : Func} {s : ChangeSpec} {apart : Bool} {tb : TypeId} {ts : List TypeId} {Ss : List (D → Prop)} (hl : laidOutB P = true) (hts : fn.params.toList = ts) (hrr : (ts.all fun t => P.readableRec t && decide (t < P.types.size)) = true)
    (hres : fn.resultTypes = #[tb]) (htb : P.underlying tb = some .bool) (hvars : s.vars = []) (hvt : s.plain.varTypes P = [])
    (hs : ∀ ds : List (DataW H), ds.length = ts.length → s.fn H ds = { results := [.lit (.bool true)], args := ds })
    (ho : OpensAll P ts Ss) (hp : ∀ xs, Sat Ss xs → PureAt P f xs (.bool true)) :
    ∀ (W : World) (base : Nat) (args : Array Value) (ds gs : List (DataW H)) (before : List MemPlace),
      (∀ (j : Nat) t v, fn.params[j]? = some t → args[j]? = some v → Value.okWide P W .any base t v) →
      DataW.Whole enc P fn.params.toList s.vars apart W args.toList ds gs before →
      (DataW.weightsEach P (fn.params.toList ++ s.plain.varTypes P) (ds ++ gs)).all (· ≤ reachBytes) = true → GOK W (fun _ => False) →
      Calls P f args W fun e W' => ∃ v, e = .returned v ∧ s.post enc P fn apart true false false W args v W' := by
  intro W base args ds gs before hval hW hz hG
  have hW' := hW
  have hlt := hW.lt
  obtain ⟨p, q, hA0, hV, rfl, _, _⟩ := hW
  rw [hvars] at hV
  obtain ⟨rfl, rfl⟩ := trodVars_none hV
  rw [List.append_nil] at hlt
  have hA : DataW.TrodAll enc P W 0 (fun _ => true) true fn.params.toList args.toList ds p := hA0
  rw [hts] at hA
  rw [hvt, List.append_nil, List.append_nil, hts] at hz
  obtain ⟨xs, h1, h2⟩ := zDB (b0 := base) ho hA (fun j t v hj hv => hval j t v (by rw [← hts] at hj; simpa using hj) (by simpa using hv)) hz
  have hlen : ds.length = ts.length := zCO hA
  refine ((hp xs h1).2 W (live W) args.toList (fun b o h => h) hG h2).mono fun e W' he => ?_
  obtain ⟨v, F', rfl, hb, hr, _⟩ := he
  obtain rfl : v = .bool true := hr
  refine ⟨_, rfl, ds, [], _, [], p, [], hW', ?_, ?_, ?_, hb.frame _, fun h => by cases h⟩
  · rw [List.append_nil, hs ds hlen, hres]
    exact trodAll_cons_mk (shut_bool htb _) trodAll_mk0
  · rw [List.append_nil, hs ds hlen, hts]
    exact zA8 hl hb hrr hlt hA
  · rw [List.append_nil, hs ds hlen, hvars]
    rfl
end Go.Proofs.YtaokpncjemkhcaaGreat
namespace Go.Proofs.YtaokpncjemkhcaaGreat
open Go.RowKit
set_option linter.all false
/-- The state behind a quiet operation that needs no fact of the program. -/
def simple1 (N : Nat) (o : Oper) (σ : St) : Option St := match o.guard, o.dst with
  | none, some t => bif Nat.blt t N then (match o.op with
    | .move x => (match σ.ev x with | some (true, tv) => some (σ.put t true tv) | _ => none)
    | .assign x => (match σ.ev x with | some (true, tv) => some (σ.put t true tv) | _ => none)
    | .extract x i => (match σ.ev x with
      | some (true, .d (.tup ds)) => (match ds[i]? with | some d => some (σ.put t true (.d d)) | none => none)
      | _ => none)
    | _ => none) else none
  | _, _ => none
def simples (N : Nat) : Nat → List Oper → St → Option (List Oper × St)
  | 0, l, σ => some (l, σ)
  | k + 1, o :: l, σ => (match simple1 N o σ with | some σ' => simples N k l σ' | none => none)
  | _ + 1, [], _ => none
theorem run_simple1 {Γ : Cx} {P : Program} {ops : Array Oper} {o : Oper} {l : List Oper} {σ σ' : St} {Q : Exit → Act → World → Prop} {N : Nat} (hn : Γ.n = N) (h : simple1 N o σ = some σ') (hr : ARun Γ P ops l σ' Q) : ARun Γ P ops (o :: l) σ Q := by
  unfold simple1 at h
  split at h
  · rename_i t hg hd
    cases hb : Nat.blt t N with
    | false => rw [hb] at h; cases h
    | true =>
      rw [hb, cond_true] at h
      split at h
      · rename_i x hop
        split at h
        · rename_i tv hx
          cases h
          exact sq hg hd hn hb (zG hop hx) hr
        · cases h
      · rename_i x hop
        split at h
        · rename_i tv hx
          cases h
          exact sq hg hd hn hb (zF hop hx) hr
        · cases h
      · rename_i x i hop
        split at h
        · rename_i ds hx
          split at h
          · rename_i d hd'
            cases h
            exact sq hg hd hn hb (zY hop hx hd') hr
          · cases h
        · cases h
      · cases h
  · cases h
theorem qs {Γ : Cx} {P : Program} {ops : Array Oper} {Q : Exit → Act → World → Prop} {N : Nat} : ∀ (k : Nat) {l r : List Oper} {σ σ' : St} (hn : Γ.n = N) (h : simples N k l σ = some (r, σ')) (hr : ARun Γ P ops r σ' Q), ARun Γ P ops l σ Q
  | 0, l, r, σ, σ', _, h, hr => by cases h; exact hr
  | k + 1, o :: l, r, σ, σ', hn, h, hr => by
    unfold simples at h
    split at h
    · rename_i σ₁ h1
      exact run_simple1 hn h1 (qs k hn h hr)
    · cases h
  | k + 1, [], r, σ, σ', _, h, _ => by cases h
end Go.Proofs.YtaokpncjemkhcaaGreat
namespace Go.Proofs.YtaokpncjemkhcaaGreat
set_option linter.all false
structure Due8 where
  frm : Int
  to : Int
  num : Int
def sumI : List Int → Int
  | [] => 0
  | x :: xs => x + sumI xs
theorem kj : ∀ (l m : List Int), sumI (l ++ m) = sumI l + sumI m
  | [], m => by simp [sumI]
  | x :: l, m => by simp only [List.cons_append, sumI, kj l m]; omega
def owedI : List Due8 → Int
  | [] => 0
  | q :: qs => q.num + owedI qs
theorem zBn : ∀ (l m : List Due8), owedI (l ++ m) = owedI l + owedI m
  | [], m => by simp [owedI]
  | x :: l, m => by simp only [List.cons_append, owedI, zBn l m]; omega
/-- From n down to 0. -/
def downs : Nat → List Int
  | 0 => [0]
  | n + 1 => ((n + 1 : Nat) : Int) :: downs n
theorem zDN : ∀ {n : Nat} {x : Int}, x ∈ downs n ↔ 0 ≤ x ∧ x ≤ n
  | 0, x => by simp only [downs, List.mem_singleton]; omega
  | n + 1, x => by simp only [downs, List.mem_cons, zDN (n := n)]; omega
def allDl : List Due8 → List (List Int)
  | [] => [[]]
  | q :: qs => (downs q.num.toNat).flatMap fun x => (allDl qs).map fun d => x :: d
def listedB : List Due8 → List Int → Bool
  | [], [] => true
  | q :: qs, x :: xs => (decide (0 ≤ x) && decide (x ≤ q.num)) && listedB qs xs
  | _, _ => false
def Num0 (qs : List Due8) : Prop := ∀ q ∈ qs, 0 ≤ q.num
theorem Num0.tail {q : Due8} {qs : List Due8} (h : Num0 (q :: qs)) : Num0 qs := fun x hx => h x (List.mem_cons_of_mem _ hx)
theorem kO : ∀ {qs : List Due8} {d : List Int}, Num0 qs → (d ∈ allDl qs ↔ listedB qs d = true)
  | [], d, _ => by cases d <;> simp [allDl, listedB]
  | q :: qs, d, h => by
    have hq := h q List.mem_cons_self
    cases d with
    | nil => simp [allDl, listedB]
    | cons x xs =>
      simp only [allDl, List.mem_flatMap, List.mem_map, listedB, Bool.and_eq_true, decide_eq_true_eq, zDN]
      constructor
      · rintro ⟨y, hy, z, hz, e⟩
        cases e
        exact ⟨⟨hy.1, by omega⟩, (kO h.tail).1 hz⟩
      · rintro ⟨⟨h1, h2⟩, h3⟩
        exact ⟨x, ⟨h1, by omega⟩, xs, (kO h.tail).2 h3, rfl⟩
theorem listed_len : ∀ {qs : List Due8} {d : List Int}, listedB qs d = true → d.length = qs.length
  | [], [], _ => rfl
  | [], _ :: _, h => by simp [listedB] at h
  | _ :: _, [], h => by simp [listedB] at h
  | q :: qs, x :: xs, h => by
    simp only [listedB, Bool.and_eq_true] at h
    simp [listed_len h.2]
theorem yp : ∀ {qs : List Due8} {d : List Int}, listedB qs d = true → 0 ≤ sumI d ∧ sumI d ≤ owedI qs
  | [], [], _ => by simp [sumI, owedI]
  | [], _ :: _, h => by simp [listedB] at h
  | _ :: _, [], h => by simp [listedB] at h
  | q :: qs, x :: xs, h => by
    simp only [listedB, Bool.and_eq_true, decide_eq_true_eq] at h
    have := yp h.2
    simp only [sumI, owedI]; omega
/-- Due number w, if it is among those from number i on, is delivered whole. -/
def wholeB (w : Int) : Nat → List Due8 → List Int → Bool
  | i, q :: qs, x :: xs => (((i : Int) != w) || (x == q.num)) && wholeB w (i + 1) qs xs
  | _, _, _ => true
def searchD (can : List Int → Bool) (w : Int) : Nat → List Due8 → List Int → Int → Option (List Int)
  | _, [], pre, b => if (b == 0 && can pre) = true then some pre else none
  | i, q :: qs, pre, b => (List.range ((if (i : Int) = w then 0 else min b q.num).toNat + 1)).findSome? fun (n : Nat) => searchD can w (i + 1) qs (pre ++ [q.num - (n : Int)]) (b - (n : Int))
theorem findSome_range {α : Type} {f : Nat → Option α} {m N : Nat} (h : m ≤ N) (hf : ∀ n, m < n → n ≤ N → f n = none) : (List.range (N + 1)).findSome? f = (List.range (m + 1)).findSome? f := by
  obtain ⟨k, rfl⟩ := Nat.exists_eq_add_of_le h
  rw [show m + k + 1 = (m + 1) + k by omega, List.range_add, List.findSome?_append]
  have : (List.map (fun x => m + 1 + x) (List.range k)).findSome? f = none := by
    rw [List.findSome?_eq_none_iff]
    intro x hx
    obtain ⟨y, hy, rfl⟩ := List.mem_map.1 hx
    rw [List.mem_range] at hy
    exact hf _ (by omega) (by omega)
  rw [this]; simp
theorem kQ {α β : Type} {f g : α → Option β} : ∀ {l : List α}, (∀ x ∈ l, f x = g x) → l.findSome? f = l.findSome? g
  | [], _ => rfl
  | x :: l, h => by
    rw [List.findSome?_cons, List.findSome?_cons, h x List.mem_cons_self, kQ fun y hy => h y (List.mem_cons_of_mem _ hy)]
theorem zCI : ∀ n : Nat, downs n = (List.range (n + 1)).map fun (k : Nat) => (n : Int) - (k : Int)
  | 0 => by simp [downs]
  | n + 1 => by
    rw [downs, zCI n, List.range_succ_eq_map (n := n + 1)]
    simp only [List.map_cons, List.map_map]
    congr 1
    apply List.map_congr_left
    intro k _
    simp only [Function.comp]
    omega
theorem zCG (can : List Int → Bool) (w : Int) : ∀ (i : Nat) (qs : List Due8) (pre : List Int) (b : Int), Num0 qs → 0 ≤ b →
    searchD can w i qs pre b = ((allDl qs).find? fun d => (owedI qs - sumI d == b && wholeB w i qs d) && can (pre ++ d)).map fun d => pre ++ d
  | i, [], pre, b, _, hb => by
    simp only [searchD, allDl, List.find?_singleton, owedI, sumI, wholeB, List.append_nil, Bool.and_true, show (0 : Int) - 0 = 0 from rfl]
    rw [show ((0 : Int) == b) = (b == 0) from by rw [Bool.eq_iff_iff]; simp; omega]
    split <;> simp_all
  | i, q :: qs, pre, b, h, hb => by
    have hq := h q List.mem_cons_self
    obtain ⟨N, hN⟩ : ∃ N : Nat, q.num = (N : Int) := ⟨q.num.toNat, by omega⟩
    have hNt : q.num.toNat = N := by omega
    simp only [searchD, allDl, List.find?_flatMap, hNt, zCI, List.findSome?_map, Function.comp_def, List.find?_map]
    rw [List.map_findSome?]
    generalize hm : (if (i : Int) = w then 0 else min b q.num).toNat = m
    have hmN : m ≤ N := by rw [← hm]; split <;> omega
    rw [findSome_range hmN (fun n h1 h2 => by
      simp only [Function.comp, Option.map_eq_none_iff, List.find?_eq_none]
      intro d hd
      have hl := yp ((kO h.tail).1 hd)
      simp only [owedI, sumI, wholeB, hN, Bool.and_eq_true, beq_iff_eq, Bool.or_eq_true, bne_iff_ne, not_and]
      intro h3 h4
      exfalso
      obtain ⟨ha, h4⟩ := h3
      obtain ⟨h5, _⟩ := h4
      rw [← hm] at h1
      by_cases hw : (i : Int) = w
      · rw [if_pos hw] at h1
        rcases h5 with h5 | h5
        · exact h5 hw
        · omega
      · rw [if_neg hw] at h1
        omega)]
    apply kQ
    intro n hn
    rw [List.mem_range] at hn
    have hnb : (n : Int) ≤ b ∧ (n : Int) ≤ q.num := by rw [← hm] at hn; split at hn <;> omega
    rw [zCG can w (i + 1) qs _ _ h.tail (by omega)]
    simp only [Function.comp, hN, Option.map_map]
    have e1 : (fun d : List Int => (owedI qs - sumI d == b - (n : Int) && wholeB w (i + 1) qs d) && can (pre ++ [(N : Int) - (n : Int)] ++ d)) =
        fun d => (owedI (q :: qs) - sumI (((N : Int) - (n : Int)) :: d) == b && wholeB w i (q :: qs) (((N : Int) - (n : Int)) :: d)) && can (pre ++ ((N : Int) - (n : Int)) :: d) := by
      funext d
      have ea : (owedI qs - sumI d == b - (n : Int)) = (owedI (q :: qs) - sumI (((N : Int) - (n : Int)) :: d) == b) := by
        rw [Bool.eq_iff_iff]; simp only [beq_iff_eq, owedI, sumI, hN]; omega
      have eb : wholeB w i (q :: qs) (((N : Int) - (n : Int)) :: d) = wholeB w (i + 1) qs d := by
        simp only [wholeB, hN]
        by_cases hw : (i : Int) = w
        · have : n = 0 := by rw [← hm, if_pos hw] at hn; simpa using hn
          subst this; simp
        · simp [hw]
      rw [ea, eb, List.append_assoc]; rfl
    rw [e1]
    congr 1
    funext d
    simp
end Go.Proofs.YtaokpncjemkhcaaGreat
namespace Go.Proofs.YtaokpncjemkhcaaGreat
set_option linter.all false
def bestD (can : List Int → Bool) (w : Int) (qs : List Due8) : Option (List Int × Int) :=
  (List.range ((owedI qs).toNat + 1)).findSome? fun (n : Nat) => (searchD can w 0 qs [] (n : Int)).map fun d => (d, (n : Int))
/-- What is asked of a list. -/
def okD (can : List Int → Bool) (w : Int) (qs : List Due8) (d : List Int) : Bool := wholeB w 0 qs d && can d
theorem zB2 (can : List Int → Bool) (w : Int) (qs : List Due8) (b : Int) (h : Num0 qs) (hb : 0 ≤ b) :
    searchD can w 0 qs [] b = (allDl qs).find? fun d => owedI qs - sumI d == b && okD can w qs d := by
  rw [zCG can w 0 qs [] b h hb]
  simp only [List.nil_append, Option.map_id', Bool.and_assoc, okD]
theorem zBz {can : List Int → Bool} {w : Int} {qs : List Due8} {d : List Int} {n : Int} (h : Num0 qs) (hs : bestD can w qs = some (d, n)) :
    listedB qs d = true ∧ okD can w qs d = true ∧ n = owedI qs - sumI d ∧ (∀ e, listedB qs e = true → okD can w qs e = true → sumI e ≤ sumI d) ∧
    (allDl qs).find? (fun e => owedI qs - sumI e == n && okD can w qs e) = some d := by
  unfold bestD at hs
  obtain ⟨l₁, k, l₂, hl, hk, hno⟩ := List.findSome?_eq_some_iff.1 hs
  rw [Option.map_eq_some_iff] at hk
  obtain ⟨d', hd', e⟩ := hk
  cases e
  have hf := hd'
  rw [zB2 can w qs _ h (by omega)] at hf
  have hmem := List.mem_of_find?_eq_some hf
  have hp := List.find?_some hf
  simp only [Bool.and_eq_true, beq_iff_eq] at hp
  refine ⟨(kO h).1 hmem, hp.2, by omega, fun e he ho => ?_, hf⟩
  have hse := yp he
  rcases Int.lt_or_le (sumI d) (sumI e) with hlt | hle
  · exfalso
    -- the number that e leaves over comes earlier
    obtain ⟨m, hm⟩ : ∃ m : Nat, owedI qs - sumI e = (m : Int) := ⟨(owedI qs - sumI e).toNat, by omega⟩
    have hmk : m < k := by omega
    have hk1 : l₁.length = k := by
      have h1 := congrArg (fun l => l[l₁.length]?) hl
      simp only [List.getElem?_append_right (Nat.le_refl _), Nat.sub_self, List.getElem?_cons_zero] at h1
      obtain ⟨hlt', he'⟩ := List.getElem?_eq_some_iff.1 h1
      simpa using he'
    have hml : m ∈ l₁ := by
      have h1 : (List.range ((owedI qs).toNat + 1))[m]? = some m := by rw [List.getElem?_range (by omega)]
      rw [hl, List.getElem?_append_left (by omega)] at h1
      exact List.mem_of_getElem? h1
    have := hno m hml
    rw [Option.map_eq_none_iff, zB2 can w qs _ h (by omega), List.find?_eq_none] at this
    have := this e ((kO h).2 he)
    simp [ho, hm] at this
  · exact hle
theorem best_none {can : List Int → Bool} {w : Int} {qs : List Due8} (h : Num0 qs) (hs : bestD can w qs = none) (e : List Int) (he : listedB qs e = true) : okD can w qs e = false := by
  unfold bestD at hs
  rw [List.findSome?_eq_none_iff] at hs
  have hse := yp he
  have := hs (owedI qs - sumI e).toNat (by rw [List.mem_range]; omega)
  rw [Option.map_eq_none_iff, zB2 can w qs _ h (by omega), List.find?_eq_none] at this
  have := this e ((kO h).2 he)
  rw [show (((owedI qs - sumI e).toNat : Nat) : Int) = owedI qs - sumI e by omega] at this
  simpa using this
theorem best_isSome {can : List Int → Bool} {w : Int} {qs : List Due8} (h : Num0 qs) : (bestD can w qs).isSome = true ↔ ∃ e, listedB qs e = true ∧ okD can w qs e = true := by
  constructor
  · intro hs
    obtain ⟨⟨d, n⟩, hd⟩ := Option.isSome_iff_exists.1 hs
    have := zBz h hd
    exact ⟨d, this.1, this.2.1⟩
  · rintro ⟨e, he, ho⟩
    cases hb : bestD can w qs with
    | some x => rfl
    | none => rw [best_none h hb e he] at ho; cases ho
def fullD (qs : List Due8) : List Int := qs.map (·.num)
end Go.Proofs.YtaokpncjemkhcaaGreat
namespace Go.Proofs.YtaokpncjemkhcaaGreat
set_option linter.all false
def sumN (f : Nat → Int) : Nat → Int
  | 0 => 0
  | n + 1 => sumN f n + f n
theorem zBu {f g : Nat → Int} : ∀ {n : Nat}, (∀ i, i < n → f i ≤ g i) → sumN f n ≤ sumN g n
  | 0, _ => Int.le_refl _
  | n + 1, h => by
    have h1 := zBu (n := n) fun i hi => h i (by omega)
    have h2 := h n (by omega)
    simp only [sumN]; omega
theorem sumN_congr {f g : Nat → Int} : ∀ {n : Nat}, (∀ i, i < n → f i = g i) → sumN f n = sumN g n
  | 0, _ => rfl
  | n + 1, h => by simp only [sumN, sumN_congr (n := n) fun i hi => h i (by omega), h n (by omega)]
theorem zDZ {f : Nat → Int} : ∀ {n : Nat}, (∀ i, i < n → f i = 0) → sumN f n = 0
  | 0, _ => rfl
  | n + 1, h => by simp only [sumN, zDZ (n := n) fun i hi => h i (by omega), h n (by omega)]; rfl
theorem zCS {f : Nat → Int} : ∀ {n : Nat}, (∀ i, i < n → 0 ≤ f i) → 0 ≤ sumN f n
  | 0, _ => Int.le_refl _
  | n + 1, h => by
    have h1 := zCS (n := n) fun i hi => h i (by omega)
    have h2 := h n (by omega)
    simp only [sumN]; omega
/-- What comes and goes at a house. -/
def netH : List Due8 → List Int → Int → Int
  | q :: qs, x :: xs, h => ((if q.to = h then x else 0) - (if q.frm = h then x else 0)) + netH qs xs h
  | _, _, _ => 0
theorem zCR : ∀ (A : List Due8) (a : List Int) (B : List Due8) (b : List Int) (h : Int), a.length = A.length → netH (A ++ B) (a ++ b) h = netH A a h + netH B b h
  | [], [], B, b, h, _ => by simp [netH]
  | [], _ :: _, _, _, _, e => by cases e
  | _ :: _, [], _, _, _, e => by cases e
  | q :: A, x :: a, B, b, h, e => by
    simp only [List.cons_append, netH, zCR A a B b h (by simpa using e)]; omega
def leftH (hand : List Int) (qs : List Due8) (d : List Int) (h : Nat) : Int := hand.getD h 0 + netH qs d (h : Int)
def lackP (N : Nat) (left : Nat → Int) : Int := sumN (fun h => max 0 (-(left h))) N
def lentP (N : Nat) (ls : Nat → Bool) (had left : Nat → Int) : Int := sumN (fun h => if ls h = true then max 0 (min (left h) (had h)) else 0) N
def canP (N : Nat) (ls : Nat → Bool) (hand : List Int) (qs : List Due8) (d : List Int) : Bool :=
  decide (lackP N (leftH hand qs d) ≤ lentP N ls (fun h => hand.getD h 0) (leftH hand qs d))
theorem lent_nonneg (N : Nat) (ls : Nat → Bool) (had left : Nat → Int) : 0 ≤ lentP N ls had left := zCS fun i _ => by (try dsimp only); split <;> omega
theorem can_of_lack {N : Nat} {ls : Nat → Bool} {hand : List Int} {qs : List Due8} {d : List Int} (h : ∀ i, i < N → 0 ≤ leftH hand qs d i) : canP N ls hand qs d = true := by
  unfold canP
  have h1 : lackP N (leftH hand qs d) = 0 := zDZ fun i hi => by have := h i hi; (try dsimp only); omega
  have := lent_nonneg N ls (fun h => hand.getD h 0) (leftH hand qs d)
  simp only [decide_eq_true_eq]; omega
theorem zC2 {N : Nat} {ls ls' : Nat → Bool} {hand hand' : List Int} {qs qs' : List Due8} {d d' : List Int} (h1 : ∀ i, i < N → hand.getD i 0 ≤ hand'.getD i 0) (h2 : ∀ i, i < N → ls i = true → ls' i = true)
    (h3 : ∀ i, i < N → netH qs d (i : Int) = netH qs' d' (i : Int)) (hc : canP N ls hand qs d = true) : canP N ls' hand' qs' d' = true := by
  unfold canP at hc ⊢
  simp only [decide_eq_true_eq] at hc ⊢
  have a : lackP N (leftH hand' qs' d') ≤ lackP N (leftH hand qs d) := zBu fun i hi => by have := h1 i hi; have := h3 i hi; simp only [leftH]; omega
  have b : lentP N ls (fun h => hand.getD h 0) (leftH hand qs d) ≤ lentP N ls' (fun h => hand'.getD h 0) (leftH hand' qs' d') := zBu fun i hi => by
    have k1 := h1 i hi; have k2 := h2 i hi; have k3 := h3 i hi
    simp only [leftH]
    by_cases hl : ls i = true
    · rw [if_pos hl, if_pos (k2 hl)]; omega
    · rw [if_neg hl]; split <;> omega
  omega
/-- Nothing is delivered. -/
def zeroD (qs : List Due8) : List Int := qs.map fun _ => 0
theorem zDP : ∀ (qs : List Due8) (h : Int), netH qs (zeroD qs) h = 0
  | [], _ => rfl
  | q :: qs, h => by
    have := zDP qs h
    simp only [zeroD, List.map_cons, netH] at this ⊢
    rw [this]; simp
theorem zCN : ∀ {qs : List Due8}, Num0 qs → listedB qs (zeroD qs) = true
  | [], _ => rfl
  | q :: qs, h => by
    have := zCN h.tail
    have hq := h q List.mem_cons_self
    simp only [zeroD] at this
    simp [zeroD, listedB, hq, this]
theorem zCJ : ∀ {qs : List Due8}, Num0 qs → listedB qs (fullD qs) = true
  | [], _ => rfl
  | q :: qs, h => by
    have := zCJ h.tail
    have hq := h q List.mem_cons_self
    simp only [fullD] at this
    simp [fullD, listedB, hq, this]
theorem zEk : ∀ (qs : List Due8), sumI (fullD qs) = owedI qs
  | [] => rfl
  | q :: qs => by have := zEk qs; simp only [fullD, List.map_cons, sumI, owedI] at this ⊢; omega
theorem zCF : ∀ {qs : List Due8} {d : List Int}, listedB qs d = true → sumI d = owedI qs → d = fullD qs
  | [], [], _, _ => rfl
  | [], _ :: _, h, _ => by simp [listedB] at h
  | _ :: _, [], h, _ => by simp [listedB] at h
  | q :: qs, x :: xs, h, hs => by
    simp only [listedB, Bool.and_eq_true, decide_eq_true_eq] at h
    have hl := yp h.2
    simp only [sumI, owedI] at hs
    have hx : x = q.num := by omega
    rw [zCF h.2 (by omega), hx]; rfl
theorem zCl (w : Int) : ∀ (i : Nat) (qs : List Due8), wholeB w i qs (fullD qs) = true
  | _, [] => rfl
  | i, q :: qs => by have := zCl w (i + 1) qs; simp only [fullD] at this; simp [fullD, wholeB, this]
theorem zCW : ∀ (i : Nat) (qs : List Due8) (d : List Int), wholeB (-1) i qs d = true
  | _, [], _ => by simp [wholeB]
  | _, _ :: _, [] => by simp [wholeB]
  | i, q :: qs, x :: d => by
    simp only [wholeB, zCW (i + 1) qs d, Bool.and_true, Bool.or_eq_true, bne_iff_ne]
    left; omega
theorem zEG (can : List Int → Bool) (qs : List Due8) (d : List Int) : okD can (-1) qs d = can d := by simp [okD, zCW]
theorem can_zero {N : Nat} {ls : Nat → Bool} {hand : List Int} {qs : List Due8} (h : ∀ i, i < N → 0 ≤ hand.getD i 0) : canP N ls hand qs (zeroD qs) = true :=
  can_of_lack fun i hi => by have := h i hi; simp only [leftH, zDP]; omega
theorem best_ex {N : Nat} {ls : Nat → Bool} {hand : List Int} {qs : List Due8} (hn : Num0 qs) (h : ∀ i, i < N → 0 ≤ hand.getD i 0) : ∃ d n, bestD (canP N ls hand qs) (-1) qs = some (d, n) := by
  have := (best_isSome (can := canP N ls hand qs) (w := -1) hn).2 ⟨zeroD qs, zCN hn, by rw [zEG]; exact can_zero h⟩
  obtain ⟨⟨d, n⟩, h⟩ := Option.isSome_iff_exists.1 this
  exact ⟨d, n, h⟩
/-- Nothing must be bought in if and only if all can be delivered. -/
theorem best_zero {can : List Int → Bool} {w : Int} {qs : List Due8} {d : List Int} {n : Int} (hn : Num0 qs) (h : bestD can w qs = some (d, n)) : n = 0 ↔ can (fullD qs) = true := by
  obtain ⟨k1, k2, k3, k4, _⟩ := zBz hn h
  constructor
  · intro e
    have := zCF k1 (by omega)
    rw [okD, this, Bool.and_eq_true] at k2
    exact k2.2
  · intro e
    have h1 := k4 (fullD qs) (zCJ hn) (by rw [okD, zCl, e]; rfl)
    rw [zEk] at h1
    have := yp k1
    omega
end Go.Proofs.YtaokpncjemkhcaaGreat
namespace Go.Proofs.YtaokpncjemkhcaaGreat
set_option linter.all false
set_option maxHeartbeats 4000000
/-- Rising numbers of a range. -/
def RisI (n : Int) : Int → List Int → Prop
  | _, [] => True
  | f, x :: r => f ≤ x ∧ x < n ∧ RisI n (x + 1) r
theorem RisI.len {n : Int} : ∀ {s : List Int} {f : Int}, RisI n f s → s = [] ∨ f + (s.length : Int) ≤ n
  | [], _, _ => .inl rfl
  | x :: r, f, ⟨h1, h2, h3⟩ => by
    right
    rcases RisI.len h3 with rfl | h
    · simp only [List.length_cons, List.length_nil]; omega
    · simp only [List.length_cons]; omega
theorem RisI.mono {n : Int} : ∀ {s : List Int} {f g : Int}, RisI n f s → g ≤ f → RisI n g s
  | [], _, _, _, _ => trivial
  | x :: r, f, g, ⟨h1, h2, h3⟩, h => ⟨by omega, h2, h3⟩
theorem RisI.mem {n : Int} : ∀ {s : List Int} {f : Int}, RisI n f s → ∀ x ∈ s, f ≤ x ∧ x < n
  | [], _, _, _, h => by cases h
  | x :: r, f, ⟨h1, h2, h3⟩, y, hy => by
    rcases List.mem_cons.1 hy with rfl | hy
    · exact ⟨h1, h2⟩
    · have := RisI.mem h3 y hy; omega
def lexB : List Int → List Int → Bool
  | x :: a, y :: b => bif x != y then decide (x < y) else lexB a b
  | _, _ => false
/-- Shorter, or as long and smaller. -/
def lessB (a b : List Int) : Bool := bif a.length == b.length then lexB a b else decide (a.length < b.length)
theorem zBY : ∀ {a : List Int}, lexB a a = false
  | [] => rfl
  | x :: a => by show (bif x != x then decide (x < x) else lexB a a) = false; rw [show (x != x) = false by simp]; exact zBY
theorem yd {x y : Int} {a b : List Int} : lexB (x :: a) (y :: b) = true ↔ x < y ∨ x = y ∧ lexB a b = true := by
  show (bif x != y then decide (x < y) else lexB a b) = true ↔ _
  by_cases e : x = y
  · subst e; rw [show (x != x) = false by simp]; simp
  · rw [show (x != y) = true by simpa using e]; simp [e]
theorem zFK : ∀ {l a b : List Int}, lexB (l ++ a) (l ++ b) = lexB a b
  | [], _, _ => rfl
  | x :: l, a, b => by
    show (bif x != x then decide (x < x) else lexB (l ++ a) (l ++ b)) = _
    rw [show (x != x) = false by simp]; exact zFK
theorem zFl : ∀ {a b c : List Int}, lexB a b = true → lexB b c = true → lexB a c = true
  | x :: a, y :: b, z :: c, h1, h2 => by
    rw [yd] at h1 h2 ⊢
    rcases h1 with h1 | ⟨rfl, h1⟩
    · rcases h2 with h2 | ⟨rfl, h2⟩
      · left; omega
      · left; exact h1
    · rcases h2 with h2 | ⟨rfl, h2⟩
      · left; exact h2
      · right; exact ⟨rfl, zFl h1 h2⟩
  | [], _, _, h1, _ => by cases h1
  | _ :: _, [], _, h1, _ => by cases h1
  | _ :: _, _ :: _, [], _, h2 => by cases h2
theorem zFa : ∀ {a b : List Int}, a.length = b.length → lexB a b = false → lexB b a = false → a = b
  | [], [], _, _, _ => rfl
  | x :: a, y :: b, hl, h1, h2 => by
    have n1 : ¬ (x < y ∨ x = y ∧ lexB a b = true) := fun h => by rw [yd.2 h] at h1; cases h1
    have n2 : ¬ (y < x ∨ y = x ∧ lexB b a = true) := fun h => by rw [yd.2 h] at h2; cases h2
    obtain rfl : x = y := by omega
    rw [zFa (a := a) (b := b) (by simpa using hl) (by cases h : lexB a b; rfl; exact (n1 (.inr ⟨rfl, h⟩)).elim) (by cases h : lexB b a; rfl; exact (n2 (.inr ⟨rfl, h⟩)).elim)]
  | [], _ :: _, h, _, _ => by cases h
  | _ :: _, [], h, _, _ => by cases h
theorem less_iff {a b : List Int} : lessB a b = true ↔ a.length < b.length ∨ a.length = b.length ∧ lexB a b = true := by
  unfold lessB
  by_cases e : a.length = b.length
  · rw [show (a.length == b.length) = true by simpa using e]; simp [e]
  · rw [show (a.length == b.length) = false by simpa using e]; simp [e]
/-- Numbers of bits. -/
def bitN (o : Nat) (n : Nat) : List Int := ((List.range n).filter o.testBit).map fun i => ((i : Nat) : Int)
def bitsI (o : Nat) : List Int := bitN o 16
theorem zAG {o n : Nat} {x : Int} : x ∈ bitN o n ↔ ∃ i : Nat, x = (i : Nat) ∧ i < n ∧ o.testBit i = true := by
  unfold bitN
  simp only [List.mem_map, List.mem_filter, List.mem_range]
  constructor
  · rintro ⟨i, ⟨h1, h2⟩, rfl⟩; exact ⟨i, rfl, h1, h2⟩
  · rintro ⟨i, rfl, h1, h2⟩; exact ⟨i, ⟨h1, h2⟩, rfl⟩
theorem zFY {n : Int} {x : Int} : ∀ {s : List Int} {f : Int}, RisI x f s → f ≤ x → x < n → RisI n f (s ++ [x])
  | [], f, _, h1, h2 => ⟨h1, h2, trivial⟩
  | y :: s, f, ⟨g1, g2, g3⟩, h1, h2 => ⟨g1, by omega, zFY g3 (by omega) h2⟩
theorem zFe {n m : Int} (h : n ≤ m) : ∀ {s : List Int} {f : Int}, RisI n f s → RisI m f s
  | [], f, _ => trivial
  | y :: s, f, ⟨g1, g2, g3⟩ => ⟨g1, by omega, zFe h g3⟩
theorem zBV {o n : Nat} : bitN o (n + 1) = bif o.testBit n then bitN o n ++ [(n : Int)] else bitN o n := by
  unfold bitN
  rw [List.range_succ, List.filter_append]
  cases h : o.testBit n <;> simp [h]
theorem zDz {o : Nat} : ∀ n : Nat, RisI (n : Int) 0 (bitN o n)
  | 0 => trivial
  | n + 1 => by
    rw [zBV]
    cases o.testBit n
    · exact zFe (by omega) (zDz n)
    · exact zFY (zDz n) (by omega) (by omega)
theorem zEC {o n : Nat} (h : o < 2 ^ n) : ∀ m, n ≤ m → bitN o m = bitN o n
  | 0, hm => by obtain rfl : n = 0 := (by omega); rfl
  | m + 1, hm => by
    by_cases e : n = m + 1
    · rw [e]
    · rw [zBV, show o.testBit m = false from Nat.testBit_lt_two_pow (Nat.lt_of_lt_of_le h (Nat.pow_le_pow_right (by decide) (by omega)))]
      exact zEC h m (by omega)
theorem zEc {o n : Nat} (h : o < 2 ^ n) (hn : n ≤ 16) : RisI (n : Int) 0 (bitsI o) := by
  unfold bitsI; rw [zEC h 16 hn]; exact zDz n
theorem zEd {n : Nat} : ∀ {s : List Int} {f : Nat}, RisI (n : Int) (f : Int) s → ∃ o, o < 2 ^ n ∧ ∀ i : Nat, o.testBit i = true ↔ (i : Int) ∈ s
  | [], f, _ => ⟨0, Nat.two_pow_pos n, fun i => by simp⟩
  | x :: s, f, ⟨h1, h2, h3⟩ => by
    obtain ⟨k, rfl⟩ : ∃ k : Nat, x = k := ⟨x.toNat, by omega⟩
    obtain ⟨o, ho, hb⟩ := zEd (n := n) (s := s) (f := k + 1) (by rw [show (((k + 1 : Nat) : Nat) : Int) = (k : Int) + 1 by omega]; exact h3)
    refine ⟨o ||| 2 ^ k, Nat.or_lt_two_pow ho (Nat.pow_lt_pow_right (by decide) (by omega)), fun i => ?_⟩
    rw [Nat.testBit_or, Nat.testBit_two_pow, Bool.or_eq_true_iff, hb i, decide_eq_true_eq, List.mem_cons]
    constructor
    · rintro (h | h)
      · exact .inr h
      · left; omega
    · rintro (h | h)
      · right; omega
      · exact .inl h
theorem zFO {n : Int} : ∀ {s t : List Int} {f : Int}, RisI n f s → RisI n f t → (∀ x, x ∈ s ↔ x ∈ t) → s = t
  | [], [], _, _, _, _ => rfl
  | [], y :: t, _, _, _, h => by have := (h y).2 List.mem_cons_self; cases this
  | x :: s, [], _, _, _, h => by have := (h x).1 List.mem_cons_self; cases this
  | x :: s, y :: t, f, ⟨a1, a2, a3⟩, ⟨b1, b2, b3⟩, h => by
    have hxy : x = y := by
      have h1 : y ≤ x := by
        rcases List.mem_cons.1 ((h x).1 List.mem_cons_self) with e | e
        · omega
        · have := b3.mem _ e; omega
      have h2 : x ≤ y := by
        rcases List.mem_cons.1 ((h y).2 List.mem_cons_self) with e | e
        · omega
        · have := a3.mem _ e; omega
      omega
    subst hxy
    rw [zFO a3 b3 fun z => ?_]
    constructor
    · intro hz
      rcases List.mem_cons.1 ((h z).1 (List.mem_cons_of_mem _ hz)) with e | e
      · have := a3.mem _ hz; omega
      · exact e
    · intro hz
      rcases List.mem_cons.1 ((h z).2 (List.mem_cons_of_mem _ hz)) with e | e
      · have := b3.mem _ hz; omega
      · exact e
theorem zFh {n : Nat} (hn : n ≤ 16) {s : List Int} (h : RisI (n : Int) 0 s) : ∃ o, o < 2 ^ n ∧ s = bitsI o := by
  obtain ⟨o, ho, hb⟩ := zEd (f := 0) h
  refine ⟨o, ho, zFO h (zEc ho hn) fun x => ?_⟩
  unfold bitsI
  rw [zAG]
  constructor
  · intro hx
    have := h.mem x hx
    exact ⟨x.toNat, by omega, by omega, (hb _).2 (by rw [show ((x.toNat : Nat) : Int) = x by omega]; exact hx)⟩
  · rintro ⟨i, rfl, _, hi⟩; exact (hb i).1 hi
/-- The search. -/
def enoughS (P : List Int → Bool) (lends : Nat → Bool) (N : Nat) : Nat → List Int → Nat → Option (List Int)
  | 0, l, _ => if P l = true then some l else none
  | k + 1, l, i => (List.range' i (N - i)).findSome? fun (h : Nat) => if lends h = true then none else enoughS P lends N k (l ++ [(h : Int)]) (h + 1)
def enoughR (P : List Int → Bool) (lends : Nat → Bool) (N : Nat) : Option (List Int) := (List.range (N + 1)).findSome? fun (k : Nat) => enoughS P lends N k [] 0
/-- Houses that do not lend. -/
def Poor (lends : Nat → Bool) (s : List Int) : Prop := ∀ x ∈ s, lends x.toNat = false
theorem Poor.tail {lends : Nat → Bool} {x : Int} {s : List Int} (h : Poor lends (x :: s)) : Poor lends s := fun y hy => h y (List.mem_cons_of_mem _ hy)
/-- The search finds the first list that is so. -/
def EnF (P : List Int → Bool) (lends : Nat → Bool) (N k : Nat) (l : List Int) (i : Nat) (r : Option (List Int)) : Prop :=
  (r = none → ∀ s : List Int, s.length = k → RisI N (i : Int) s → Poor lends s → P (l ++ s) = false) ∧
  ∀ t, r = some t → ∃ s : List Int, t = l ++ s ∧ s.length = k ∧ RisI N (i : Int) s ∧ Poor lends s ∧ P t = true ∧
    ∀ s' : List Int, s'.length = k → RisI N (i : Int) s' → Poor lends s' → P (l ++ s') = true → lexB s' s = false
theorem zFw {P : List Int → Bool} {lends : Nat → Bool} {N k : Nat} (hk : ∀ l i, EnF P lends N k l i (enoughS P lends N k l i)) (l : List Int) : ∀ (m i : Nat), N - i ≤ m →
    EnF P lends N (k + 1) l i ((List.range' i m).findSome? fun (h : Nat) => if h < N then (if lends h = true then none else enoughS P lends N k (l ++ [(h : Int)]) (h + 1)) else none)
  | 0, i, hm => by
    refine ⟨fun _ s hsl hR _ => ?_, fun t ht => by simp at ht⟩
    rcases hR.len with rfl | h
    · cases hsl
    · omega
  | m + 1, i, hm => by
    have ih := zFw (N := N) hk l m (i + 1) (by omega)
    rw [List.range'_succ, List.findSome?_cons]
    have key : ∀ r0 : Option (List Int), r0 = (if i < N then (if lends i = true then none else enoughS P lends N k (l ++ [(i : Int)]) (i + 1)) else none) → r0 = none →
        ∀ r : List Int, r.length = k → RisI N ((i : Int) + 1) r → (i : Int) < N → Poor lends ((i : Int) :: r) → P (l ++ (i : Int) :: r) = false := fun r0 e0 e1 r hr hR hi hp => by
      subst e0
      have hl : lends i = false := by have := hp _ List.mem_cons_self; simpa using this
      rw [if_pos (by omega), if_neg (by simp [hl])] at e1
      have h1 := hk (l ++ [(i : Int)]) (i + 1)
      have := h1.1 e1 r hr (by rw [show (((i + 1 : Nat) : Nat) : Int) = (i : Int) + 1 by omega]; exact hR) hp.tail
      rwa [List.append_assoc] at this
    cases hr0 : (if i < N then (if lends i = true then none else enoughS P lends N k (l ++ [(i : Int)]) (i + 1)) else none) with
    | none =>
      have hno := key _ rfl hr0
      simp only []
      refine ⟨fun hn s hsl hR hp => ?_, fun t ht => ?_⟩
      · cases s with
        | nil => cases hsl
        | cons x r =>
          obtain ⟨g1, g2, g3⟩ := hR
          by_cases e : x = (i : Int)
          · subst e; exact hno r (by simpa using hsl) g3 g2 hp
          · exact ih.1 hn _ hsl ⟨by omega, g2, g3⟩ hp
      · obtain ⟨s, e1, e2, e3, ep, e4, e5⟩ := ih.2 t ht
        refine ⟨s, e1, e2, e3.mono (by omega), ep, e4, fun s' hl' hR' hp' hok => ?_⟩
        cases s' with
        | nil => cases hl'
        | cons x r =>
          obtain ⟨g1, g2, g3⟩ := hR'
          by_cases e : x = (i : Int)
          · subst e; rw [hno r (by simpa using hl') g3 g2 hp'] at hok; cases hok
          · exact e5 _ hl' ⟨by omega, g2, g3⟩ hp' hok
    | some t0 =>
      refine ⟨fun hn => (by cases hn), fun t ht => ?_⟩
      obtain rfl : t0 = t := by simpa using ht
      have hi : i < N := by
        by_cases hi : i < N
        · exact hi
        · rw [if_neg hi] at hr0; cases hr0
      rw [if_pos hi] at hr0
      have hl : lends i = false := by
        cases hl : lends i with
        | false => rfl
        | true => rw [if_pos hl] at hr0; cases hr0
      rw [if_neg (by simp [hl])] at hr0
      have h1 := hk (l ++ [(i : Int)]) (i + 1)
      obtain ⟨s, e1, e2, e3, ep, e4, e5⟩ := h1.2 _ hr0
      refine ⟨(i : Int) :: s, by rw [e1, List.append_assoc]; rfl, by simp [e2], ⟨by omega, by omega, by rw [show (((i + 1 : Nat) : Nat) : Int) = (i : Int) + 1 by omega] at e3; exact e3⟩, fun x hx => ?_, e4, fun s' hl' hR' hp' hok => ?_⟩
      · rcases List.mem_cons.1 hx with rfl | hx
        · simpa using hl
        · exact ep x hx
      cases s' with
      | nil => cases hl'
      | cons x r =>
        obtain ⟨g1, g2, g3⟩ := hR'
        cases hx : lexB (x :: r) ((i : Int) :: s) with
        | false => rfl
        | true =>
          rcases yd.1 hx with h | ⟨e, h⟩
          · omega
          · subst e
            rw [e5 r (by simpa using hl') (by rw [show (((i + 1 : Nat) : Nat) : Int) = (i : Int) + 1 by omega]; exact g3) hp'.tail (by rw [List.append_assoc]; exact hok)] at h
            cases h
theorem zCV {P : List Int → Bool} {lends : Nat → Bool} {N : Nat} : ∀ (k : Nat) (l : List Int) (i : Nat), EnF P lends N k l i (enoughS P lends N k l i)
  | 0, l, i => by
    unfold enoughS
    cases h : P l
    · refine ⟨fun _ s hsl _ _ => ?_, fun t ht => by simp at ht⟩
      obtain rfl : s = [] := by simpa using hsl
      rw [List.append_nil]; exact h
    · refine ⟨fun hn => (by simp at hn), fun t ht => ?_⟩
      obtain rfl : l = t := by simpa using ht
      refine ⟨[], by simp, rfl, trivial, fun _ hx => (by cases hx), h, fun s' hl' _ _ _ => ?_⟩
      obtain rfl : s' = [] := by simpa using hl'
      rfl
  | k + 1, l, i => by
    have := zFw (N := N) (zCV (P := P) (lends := lends) k) l (N - i) i (Nat.le_refl _)
    unfold enoughS
    rw [kQ (g := fun (h : Nat) => if h < N then (if lends h = true then none else enoughS P lends N k (l ++ [(h : Int)]) (h + 1)) else none) fun h hh => ?_]
    · exact this
    · rw [List.mem_range'_1] at hh
      exact (if_pos (show h < N by omega)).symm
/-- What is found is least; if nothing is found, there is nothing. -/
theorem enough_least {P : List Int → Bool} {lends : Nat → Bool} {N : Nat} : (∀ t, enoughR P lends N = some t → RisI (N : Int) 0 t ∧ Poor lends t ∧ P t = true ∧ ∀ s, RisI (N : Int) 0 s → Poor lends s → P s = true → lessB s t = false) ∧
    (enoughR P lends N = none → ∀ s, RisI (N : Int) 0 s → Poor lends s → P s = false) := by
  have hlen : ∀ s, RisI (N : Int) 0 s → s.length ≤ N := fun s hs => by
    rcases hs.len with rfl | h
    · simp
    · omega
  constructor
  · intro t ht
    obtain ⟨l1, k, l2, e, h1, h2⟩ := List.findSome?_eq_some_iff.1 ht
    have hno : ∀ j, j < k → enoughS P lends N j [] 0 = none := by
      have hk1 : l1.length = k ∧ k < N + 1 := by
        have hg := congrArg (fun z => z[l1.length]?) e
        simp only [List.getElem?_append_right (Nat.le_refl _), Nat.sub_self, List.getElem?_cons_zero] at hg
        obtain ⟨hlt, he⟩ := List.getElem?_eq_some_iff.1 hg
        simp only [List.getElem_range, List.length_range] at he hlt
        exact ⟨he, by omega⟩
      intro j hj
      refine h2 j ?_
      have : (List.range (N + 1))[j]? = some j := by rw [List.getElem?_range (by omega)]
      rw [e, List.getElem?_append_left (by omega)] at this
      exact List.mem_of_getElem? this
    obtain ⟨s, e1, e2, e3, ep, e4, e5⟩ := (zCV (P := P) (lends := lends) (N := N) k [] 0).2 t h1
    rw [List.nil_append] at e1
    subst e1
    refine ⟨e3, ep, e4, fun s' hR hp hok => ?_⟩
    cases hx : lessB s' t with
    | false => rfl
    | true =>
      rcases less_iff.1 hx with h | ⟨h, h'⟩
      · have := (zCV (P := P) (lends := lends) (N := N) s'.length [] 0).1 (hno _ (by omega)) s' rfl hR hp
        rw [List.nil_append, hok] at this; cases this
      · rw [e5 s' (by omega) hR hp (by rw [List.nil_append]; exact hok)] at h'; cases h'
  · intro hn s hs hp
    have h1 := List.findSome?_eq_none_iff.1 hn s.length (List.mem_range.2 (by have := hlen s hs; omega))
    have := (zCV (P := P) (lends := lends) (N := N) s.length [] 0).1 h1 s rfl hs hp
    rwa [List.nil_append] at this
end Go.Proofs.YtaokpncjemkhcaaGreat
namespace Go.Proofs.YtaokpncjemkhcaaGreat
set_option linter.all false
/-- All ways, as the search yields them. -/
def putL (holds : List Int → Bool) (cand : Nat → List Int) : Nat → List Int → List (List Int)
  | 0, hs => if holds hs = true then [hs] else []
  | k + 1, hs => if holds hs = true then (cand hs.length).flatMap fun h => putL holds cand k (hs ++ [h]) else []
theorem zD9 {holds : List Int → Bool} {cand : Nat → List Int} (h1 : ∀ l x, holds (l ++ [x]) = true → holds l = true) : ∀ (k : Nat) (hs x : List Int), (∀ l y, holds (l ++ [y]) = true → l.length < hs.length + k → y ∈ cand l.length) →
    (x ∈ putL holds cand k hs ↔ ∃ t, x = hs ++ t ∧ t.length = k ∧ holds x = true)
  | 0, hs, x, _ => by
    unfold putL
    constructor
    · intro h
      split at h
      · rename_i hh
        rw [List.mem_singleton] at h
        subst h
        exact ⟨[], by simp, rfl, hh⟩
      · cases h
    · rintro ⟨t, rfl, ht, hh⟩
      obtain rfl : t = [] := by simpa using ht
      rw [List.append_nil] at hh ⊢
      rw [if_pos hh]; exact List.mem_singleton.2 rfl
  | k + 1, hs, x, h2 => by
    have hpre : ∀ (t l : List Int), holds (l ++ t) = true → holds l = true := fun t => by
      induction t with
      | nil => intro l h; rwa [List.append_nil] at h
      | cons a t ih =>
        intro l h
        exact h1 l a (ih (l ++ [a]) (by rwa [List.append_assoc]))
    unfold putL
    constructor
    · intro h
      split at h
      · obtain ⟨a, ha, hx⟩ := List.mem_flatMap.1 h
        obtain ⟨t, rfl, ht, hh⟩ := (zD9 h1 k (hs ++ [a]) x fun l y hl hlt => h2 l y hl (by simp only [List.length_append, List.length_cons, List.length_nil] at hlt; omega)).1 hx
        exact ⟨a :: t, by rw [List.append_assoc]; rfl, by simp [ht], hh⟩
      · cases h
    · rintro ⟨t, rfl, ht, hh⟩
      rw [if_pos (hpre t hs hh)]
      cases t with
      | nil => cases ht
      | cons a t =>
        have he : hs ++ a :: t = (hs ++ [a]) ++ t := by rw [List.append_assoc]; rfl
        rw [List.mem_flatMap]
        refine ⟨a, h2 hs a (hpre t _ (by rw [← he]; exact hh)) (by omega), ?_⟩
        exact (zD9 h1 k (hs ++ [a]) _ fun l y hl hlt => h2 l y hl (by simp only [List.length_append, List.length_cons, List.length_nil] at hlt; omega)).2 ⟨t, he, by simpa using ht, hh⟩
/-- Those that were not there yet are added. -/
def addNew (out : List (List Int)) (h : List Int) : List (List Int) := if (out.any fun x => x == h) = true then out else out ++ [h]
theorem addNew_mem {out : List (List Int)} {h x : List Int} : x ∈ addNew out h ↔ x ∈ out ∨ x = h := by
  unfold addNew
  split
  · rename_i hc
    rw [List.any_eq_true] at hc
    obtain ⟨y, hy, e⟩ := hc
    have := eq_of_beq e
    subst this
    constructor
    · exact .inl
    · rintro (h | rfl)
      · exact h
      · exact hy
  · simp
theorem zAM {f : List Int → List Int} : ∀ (L : List (List Int)) (out : List (List Int)) (x : List Int), x ∈ L.foldl (fun o p => addNew o (f p)) out ↔ x ∈ out ∨ ∃ p ∈ L, x = f p
  | [], out, x => by simp
  | p :: L, out, x => by
    rw [List.foldl_cons, zAM L, addNew_mem]
    simp only [List.mem_cons, exists_eq_or_imp, or_assoc]
theorem zAg {f : List Int → List Int} : ∀ (L : List (List Int)) (out : List (List Int)), out.Nodup → (L.foldl (fun o p => addNew o (f p)) out).Nodup
  | [], out, h => h
  | p :: L, out, h => by
    rw [List.foldl_cons]
    refine zAg L _ ?_
    unfold addNew
    split
    · exact h
    · rename_i hc
      rw [List.nodup_append]
      refine ⟨h, by simp, fun a ha b hb => ?_⟩
      rw [List.mem_singleton] at hb
      subst hb
      intro e
      subst e
      exact hc (List.any_eq_true.2 ⟨_, ha, beq_self_eq_true _⟩)
def Sorted8 (l : List (List Int)) : Prop := l.Pairwise fun a b => lexB a b = true
theorem lex_anti {a b : List Int} (h : lexB a b = true) : lexB b a = false := by
  cases hb : lexB b a with
  | false => rfl
  | true => have := zFl h hb; rw [zBY] at this; cases this
theorem zDc : ∀ {a b : List (List Int)}, Sorted8 a → Sorted8 b → (∀ x, x ∈ a ↔ x ∈ b) → a = b
  | [], [], _, _, _ => rfl
  | [], y :: b, _, _, h => by have := (h y).2 List.mem_cons_self; cases this
  | x :: a, [], _, _, h => by have := (h x).1 List.mem_cons_self; cases this
  | x :: a, y :: b, ha, hb, h => by
    unfold Sorted8 at ha hb
    rw [List.pairwise_cons] at ha hb
    have hxy : x = y := by
      rcases List.mem_cons.1 ((h x).1 List.mem_cons_self) with e | e
      · exact e
      · rcases List.mem_cons.1 ((h y).2 List.mem_cons_self) with f | f
        · exact f.symm
        · have h1 := hb.1 x e; have h2 := ha.1 y f
          rw [lex_anti h1] at h2; cases h2
    subst hxy
    congr 1
    refine zDc ha.2 hb.2 fun z => ⟨fun hz => ?_, fun hz => ?_⟩
    · rcases List.mem_cons.1 ((h z).1 (List.mem_cons_of_mem _ hz)) with e | e
      · have := ha.1 z hz; rw [e, zBY] at this; cases this
      · exact e
    · rcases List.mem_cons.1 ((h z).2 (List.mem_cons_of_mem _ hz)) with e | e
      · have := hb.1 z hz; rw [e, zBY] at this; cases this
      · exact e
/-- A number as digits in base 5. -/
def digs : Nat → Nat → List Int
  | 0, _ => []
  | N + 1, n => digs N (n / 5) ++ [((n % 5 : Nat) : Int)]
theorem zES : ∀ (N n : Nat), (digs N n).length = N
  | 0, _ => rfl
  | N + 1, n => by simp [digs, zES N]
theorem zEa : ∀ {a b x y : List Int}, lexB a b = true → lexB (a ++ x) (b ++ y) = true
  | [], _, _, _, h => by cases h
  | _ :: _, [], _, _, h => by cases h
  | p :: a, q :: b, x, y, h => by
    rw [List.cons_append, List.cons_append, yd]
    rw [yd] at h
    rcases h with h | ⟨e, h⟩
    · exact .inl h
    · exact .inr ⟨e, zEa h⟩
theorem zEQ : ∀ (N : Nat) {a b : Nat}, a < b → b < 5 ^ N → lexB (digs N a) (digs N b) = true
  | 0, a, b, h, hb => by simp at hb; omega
  | N + 1, a, b, h, hb => by
    rw [Nat.pow_succ] at hb
    unfold digs
    by_cases e : a / 5 = b / 5
    · rw [e, zFK, yd]
      left
      omega
    · exact zEa (zEQ N (by omega) (by omega))
theorem zEW : ∀ (N : Nat) (l : List Int), l.length = N → (∀ x ∈ l, 0 ≤ x ∧ x ≤ 4) → ∃ n, n < 5 ^ N ∧ digs N n = l
  | 0, l, h, _ => ⟨0, by simp, by rw [List.length_eq_zero_iff.1 h]; rfl⟩
  | N + 1, l, h, hl => by
    obtain ⟨m, x, rfl⟩ : ∃ m x, l = m ++ [x] := ⟨l.dropLast, l.getLast (by intro e; rw [e] at h; cases h), (List.dropLast_concat_getLast _).symm⟩
    have hx := hl x (by simp)
    obtain ⟨n, hn, e⟩ := zEW N m (by simpa using h) fun y hy => hl y (List.mem_append_left _ hy)
    refine ⟨n * 5 + x.toNat, by rw [Nat.pow_succ]; omega, ?_⟩
    unfold digs
    rw [show (n * 5 + x.toNat) / 5 = n by omega, show (n * 5 + x.toNat) % 5 = x.toNat by omega, e, show ((x.toNat : Nat) : Int) = x by omega]
/-- The reference's list. -/
def refHandsL (N : Nat) (is : List Int → Bool) : List (List Int) := ((List.range (5 ^ N)).map (digs N)).filter is
theorem refHands_sorted (N : Nat) (is : List Int → Bool) : Sorted8 (refHandsL N is) := by
  unfold Sorted8 refHandsL
  refine List.Pairwise.filter _ ?_
  rw [List.pairwise_map]
  refine List.pairwise_iff_getElem.2 fun i j hi hj hij => ?_
  simp only [List.length_range] at hi hj
  simp only [List.getElem_range]
  exact zEQ N hij hj
theorem zBW {N : Nat} {is : List Int → Bool} {l : List Int} (his : ∀ l, is l = true → l.length = N → ∀ x ∈ l, 0 ≤ x ∧ x ≤ 4) : l ∈ refHandsL N is ↔ l.length = N ∧ is l = true := by
  unfold refHandsL
  rw [List.mem_filter, List.mem_map]
  constructor
  · rintro ⟨⟨n, _, rfl⟩, h⟩; exact ⟨zES _ _, h⟩
  · rintro ⟨h1, h2⟩
    obtain ⟨n, hn, e⟩ := zEW N l h1 (his l h2 h1)
    exact ⟨⟨n, List.mem_range.2 hn, e⟩, h2⟩
/-- Sorted hands with the same members are the reference's. -/
theorem hands_law {N : Nat} {is : List Int → Bool} {H : List (List Int)} (hs : Sorted8 H) (his : ∀ l, is l = true → l.length = N → ∀ x ∈ l, 0 ≤ x ∧ x ≤ 4) (hm : ∀ l, l ∈ H ↔ l.length = N ∧ is l = true) : H = refHandsL N is :=
  zDc hs (refHands_sorted N is) fun l => by rw [hm, zBW his]
end Go.Proofs.YtaokpncjemkhcaaGreat
namespace Go.Proofs.YtaokpncjemkhcaaGreat
set_option linter.all false
def buyR (lo : Int) (ns : List Int) : Int × Int := ns.foldl (fun p n => (min p.1 n, max p.2 n)) (lo, 0)
theorem zEU : ∀ (ns : List Int) (a b : Int), (ns.foldl (fun p n => (min p.1 n, max p.2 n)) (a, b)).1 ≤ a ∧ b ≤ (ns.foldl (fun p n => (min p.1 n, max p.2 n)) (a, b)).2 ∧
    (∀ n ∈ ns, (ns.foldl (fun p n => (min p.1 n, max p.2 n)) (a, b)).1 ≤ n ∧ n ≤ (ns.foldl (fun p n => (min p.1 n, max p.2 n)) (a, b)).2) ∧
    ((ns.foldl (fun p n => (min p.1 n, max p.2 n)) (a, b)).1 = a ∨ (ns.foldl (fun p n => (min p.1 n, max p.2 n)) (a, b)).1 ∈ ns) ∧
    ((ns.foldl (fun p n => (min p.1 n, max p.2 n)) (a, b)).2 = b ∨ (ns.foldl (fun p n => (min p.1 n, max p.2 n)) (a, b)).2 ∈ ns)
  | [], a, b => ⟨Int.le_refl _, Int.le_refl _, fun _ h => (by cases h), .inl rfl, .inl rfl⟩
  | x :: ns, a, b => by
    obtain ⟨h1, h2, h3, h4, h5⟩ := zEU ns (min a x) (max b x)
    rw [List.foldl_cons]
    refine ⟨by dsimp only at *; omega, by dsimp only at *; omega, fun n hn => ?_, ?_, ?_⟩
    · rcases List.mem_cons.1 hn with rfl | hn
      · dsimp only at *; omega
      · exact h3 n hn
    · rcases h4 with h4 | h4
      · by_cases ha : a ≤ x
        · left; dsimp only at *; omega
        · right; rw [List.mem_cons]; left; dsimp only at *; omega
      · exact .inr (List.mem_cons_of_mem _ h4)
    · rcases h5 with h5 | h5
      · by_cases ha : x ≤ b
        · left; dsimp only at *; omega
        · right; rw [List.mem_cons]; left; dsimp only at *; omega
      · exact .inr (List.mem_cons_of_mem _ h5)
/-- The least and the greatest of some numbers that are from 0 to hi. -/
theorem buy_ok {ns : List Int} {lo : Int} (hne : ns ≠ []) (hb : ∀ n ∈ ns, 0 ≤ n ∧ n ≤ lo) : (∀ n ∈ ns, (buyR lo ns).1 ≤ n ∧ n ≤ (buyR lo ns).2) ∧ (buyR lo ns).1 ∈ ns ∧ (buyR lo ns).2 ∈ ns := by
  obtain ⟨h1, h2, h3, h4, h5⟩ := zEU ns lo 0
  obtain ⟨x, l, rfl⟩ : ∃ x l, ns = x :: l := by cases ns with | nil => exact (hne rfl).elim | cons x l => exact ⟨x, l, rfl⟩
  refine ⟨h3, ?_, ?_⟩
  · rcases h4 with h4 | h4
    · have := h3 x List.mem_cons_self
      have := hb x List.mem_cons_self
      have e : (buyR lo (x :: l)).1 = x := by unfold buyR; omega
      rw [e]; exact List.mem_cons_self
    · exact h4
  · rcases h5 with h5 | h5
    · have := h3 x List.mem_cons_self
      have := hb x List.mem_cons_self
      have e : (buyR lo (x :: l)).2 = x := by unfold buyR; omega
      rw [e]; exact List.mem_cons_self
    · exact h5
/-- The verdict on a due, from what is so with each hand. -/
def verdB (l : List Bool) : Int := if l.all id = true then 1 else if l.any id = true then 3 else 2
def setAll (lends : List Bool) (more : List Int) : List Bool := more.foldl (fun l h => l.set h.toNat true) lends
theorem zAL : ∀ (more : List Int) (lends : List Bool) (i : Nat), i < lends.length → (∀ x ∈ more, 0 ≤ x) → (setAll lends more).getD i false = (lends.getD i false || more.any fun x => x == (i : Int))
  | [], lends, i, _, _ => by simp [setAll]
  | x :: more, lends, i, hi, hm => by
    have hx := hm x List.mem_cons_self
    have := zAL more (lends.set x.toNat true) i (by simpa using hi) fun y hy => hm y (List.mem_cons_of_mem _ hy)
    unfold setAll at this ⊢
    rw [List.foldl_cons, this, List.any_cons]
    rw [List.getD_eq_getElem?_getD, List.getD_eq_getElem?_getD, List.getElem?_set]
    by_cases e : x = (i : Int)
    · subst e
      simp [hi]
    · rw [if_neg (by omega), show (x == (i : Int)) = false by simpa using e, Bool.false_or]
theorem zAQ : ∀ (more : List Int) (lends : List Bool), (setAll lends more).length = lends.length
  | [], _ => rfl
  | x :: more, lends => by
    have := zAQ more (lends.set x.toNat true)
    unfold setAll at this ⊢
    rw [List.foldl_cons, this]; simp
def wholeP (N : Nat) (lends : List Bool) (hands : List (List Int)) (qs : List Due8) (more : List Int) : Bool := hands.all fun h => canP N (fun i => (setAll lends more).getD i false) h qs (fullD qs)
def refEnoughB (N : Nat) (lends : List Bool) (hands : List (List Int)) (qs : List Due8) (bits : Nat) : Bool := hands.all fun h => canP N (fun i => lends.getD i false || bits.testBit i) h qs (fullD qs)
theorem zB7 {N : Nat} {ls ls' : Nat → Bool} {hand : List Int} {qs : List Due8} {d : List Int} (h : ∀ i, i < N → ls i = ls' i) : canP N ls hand qs d = canP N ls' hand qs d := by
  rw [Bool.eq_iff_iff]
  exact ⟨zC2 (fun _ _ => Int.le_refl _) (fun i hi e => by rw [← h i hi]; exact e) fun _ _ => rfl, zC2 (fun _ _ => Int.le_refl _) (fun i hi e => by rw [h i hi]; exact e) fun _ _ => rfl⟩
theorem zB1 {α : Type} {f g : α → Bool} : ∀ {l : List α}, (∀ x ∈ l, f x = g x) → l.all f = l.all g
  | [], _ => rfl
  | x :: l, h => by rw [List.all_cons, List.all_cons, h x List.mem_cons_self, zB1 fun y hy => h y (List.mem_cons_of_mem _ hy)]
theorem zBH {N : Nat} {lends : List Bool} {hands : List (List Int)} {qs : List Due8} {o : Nat} (hl : lends.length = N) (hN : N ≤ 16) : wholeP N lends hands qs (bitsI o) = refEnoughB N lends hands qs o := by
  unfold wholeP refEnoughB
  refine zB1 fun h _ => zB7 fun i hi => ?_
  rw [zAL _ _ _ (by omega) fun x hx => by obtain ⟨k, rfl, _⟩ := zAG.1 hx; omega]
  congr 1
  rw [Bool.eq_iff_iff, List.any_eq_true]
  constructor
  · rintro ⟨x, hx, e⟩
    have e := eq_of_beq e
    subst e
    obtain ⟨k, hk, _, hb⟩ := zAG.1 hx
    obtain rfl : i = k := by omega
    exact hb
  · intro hb
    exact ⟨(i : Int), zAG.2 ⟨i, rfl, by omega, hb⟩, by simp⟩
/-- What the least set of lenders is, told by the ledgers in which these lend. -/
theorem enough_laws {N : Nat} {lends : List Bool} {hands : List (List Int)} {qs : List Due8} (hl : lends.length = N) (hN : N ≤ 16) :
    ((enoughR (wholeP N lends hands qs) (fun i => lends.getD i false) N).isSome = true ↔ refEnoughB N lends hands qs (2 ^ N - 1) = true) ∧
    ∀ s, enoughR (wholeP N lends hands qs) (fun i => lends.getD i false) N = some s → wholeP N lends hands qs s = true ∧ RisI (N : Int) 0 s ∧ Poor (fun i => lends.getD i false) s ∧
      ∀ o, o < 2 ^ N → refEnoughB N lends hands qs o = true → lessB ((bitsI o).filter fun x => !(lends.getD x.toNat false)) s = false := by
  obtain ⟨h1, h2⟩ := enough_least (P := wholeP N lends hands qs) (lends := fun i => lends.getD i false) (N := N)
  have hpos := Nat.two_pow_pos N
  -- a set without those that lend anyhow is as good
  have hfil : ∀ o, refEnoughB N lends hands qs o = wholeP N lends hands qs ((bitsI o).filter fun x => !(lends.getD x.toNat false)) := fun o => by
    rw [← zBH hl hN]
    unfold wholeP
    have hnn : ∀ x ∈ bitsI o, 0 ≤ x := fun x hx => by obtain ⟨k, rfl, _⟩ := zAG.1 hx; omega
    refine zB1 fun h _ => zB7 fun i hi => ?_
    rw [zAL _ _ _ (by omega) hnn, zAL _ _ _ (by omega) fun x hx => hnn x (List.mem_filter.1 hx).1]
    cases hli : lends.getD i false with
    | true => simp
    | false =>
      rw [Bool.false_or, Bool.false_or, Bool.eq_iff_iff, List.any_eq_true, List.any_eq_true]
      constructor
      · rintro ⟨x, hx, e⟩
        have e' := eq_of_beq e
        subst e'
        exact ⟨_, List.mem_filter.2 ⟨hx, by simpa using hli⟩, e⟩
      · rintro ⟨x, hx, e⟩
        exact ⟨x, (List.mem_filter.1 hx).1, e⟩
  have hris : ∀ o, o < 2 ^ N → RisI (N : Int) 0 ((bitsI o).filter fun x => !(lends.getD x.toNat false)) := fun o ho => by
    have key : ∀ {s : List Int} {f : Int}, RisI (N : Int) f s → RisI (N : Int) f (s.filter fun x => !(lends.getD x.toNat false)) := fun {s} => by
      induction s with
      | nil => intro f _; trivial
      | cons x s ih =>
        intro f h
        obtain ⟨g1, g2, g3⟩ := h
        rw [List.filter_cons]
        split
        · exact ⟨g1, g2, ih g3⟩
        · exact (ih g3).mono (by omega)
    exact key (zEc ho hN)
  have hpoor : ∀ o, Poor (fun i => lends.getD i false) ((bitsI o).filter fun x => !(lends.getD x.toNat false)) := fun o x hx => by
    have := (List.mem_filter.1 hx).2
    simpa using this
  have hmono : ∀ o, refEnoughB N lends hands qs o = true → refEnoughB N lends hands qs (2 ^ N - 1) = true := fun o ho => by
    unfold refEnoughB at ho ⊢
    rw [List.all_eq_true] at ho ⊢
    intro h hh
    refine zC2 (fun _ _ => Int.le_refl _) (fun i hi e => ?_) (fun _ _ => rfl) (ho h hh)
    rw [Nat.testBit_two_pow_sub_one]
    simp [hi]
  constructor
  · constructor
    · intro hs
      obtain ⟨s, hs⟩ := Option.isSome_iff_exists.1 hs
      obtain ⟨k1, k2, k3, _⟩ := h1 s hs
      obtain ⟨o, ho, rfl⟩ := zFh hN k1
      rw [zBH hl hN] at k3
      exact hmono o k3
    · intro hf
      cases he : enoughR (wholeP N lends hands qs) (fun i => lends.getD i false) N with
      | some s => rfl
      | none =>
        have := h2 he _ (hris (2 ^ N - 1) (by omega)) (hpoor _)
        rw [← hfil, hf] at this; cases this
  · intro s hs
    obtain ⟨k1, k2, k3, k4⟩ := h1 s hs
    refine ⟨k3, k1, k2, fun o ho hq => k4 _ (hris o ho) (hpoor o) ?_⟩
    rw [← hfil]; exact hq
end Go.Proofs.YtaokpncjemkhcaaGreat
namespace Go.Proofs.YtaokpncjemkhcaaGreat
open Go.RowKit
structure Ent5 where
  kind : Int
  sheet : Int
  frm : Int
  to : Int
  lo : Int
  hi : Int
structure Sight5 where
  sheet : Int
  house : Int
  day : Int
structure Reg where
  houses : Int
  start : List Int
  entries : List Ent5
  sights : List Sight5
@[reducible] def intE (n : Int) : List D := [.int .i64 n]
@[reducible] def entE (e : Ent5) : List D := [.int .i64 e.kind, .int .i64 e.sheet, .int .i64 e.frm, .int .i64 e.to, .int .i64 e.lo, .int .i64 e.hi]
@[reducible] def sightE (s : Sight5) : List D := [.int .i64 s.sheet, .int .i64 s.house, .int .i64 s.day]
@[reducible] def ints (l : List Int) : D := .slice 1 (l.map intE)
@[reducible] def entsD (l : List Ent5) : D := .slice 6 (l.map entE)
@[reducible] def sightsD (l : List Sight5) : D := .slice 3 (l.map sightE)
@[reducible] def regC (r : Reg) : List D := [.int .i64 r.houses, ints r.start, entsD r.entries, sightsD r.sights]
@[reducible] def regD (r : Reg) : D := .agg (regC r)
@[reducible] def doneE (n : Nat) : List D := [.int .u64 n]
@[reducible] def donesD (l : List Nat) : D := .slice 1 (l.map doneE)
def iw (n : Int) : Int := IntKind.i64.wrap n
theorem iw_of {n : Int} (h : -9223372036854775808 ≤ n ∧ n ≤ 9223372036854775807) : iw n = n := i64w h rfl
theorem mget {α β : Type} {l : List α} {f : α → β} {i : Nat} {x : α} (h : l[i]? = some x) : (l.map f)[i]? = some (f x) := by simp [h]
theorem yJ {α : Type} {l : List α} {p : α → Bool} {i : Nat} {x : α} (h : l[i]? = some x) (ha : (l.take i).all p = true) (hx : p x = true) : (l.take (i + 1)).all p = true := by
  rw [List.take_add_one, h]
  simp [ha, hx]
theorem zz {α : Type} {l : List α} {i : Nat} (h : i < l.length) : ∃ x, l[i]? = some x := ⟨_, List.getElem?_eq_getElem h⟩
theorem zAo {α β : Type} {l : List α} {f : α → β} {p : α → Bool} {i : Nat} (h : ((l.map f).length : Int) ≤ (i : Int)) (hi : i ≤ l.length) (ha : (l.take i).all p = true) : l.all p = true := by
  have e : i = l.length := by simp only [List.length_map] at h; omega
  subst e
  simpa using ha
/-- The index of the first element that is so, or -1. -/
def idxOf {α : Type} (p : α → Bool) (l : List α) : Int := match l.findIdx? p with
  | some i => (i : Int)
  | none => -1
theorem yw {α : Type} {p : α → Bool} {l : List α} {i : Nat} {x : α} (h : l[i]? = some x) (ha : (l.take i).all (fun x => !p x) = true) (hx : p x = true) : idxOf p l = i := by
  have : l.findIdx? p = some i := by
    rw [List.findIdx?_eq_some_iff_getElem]
    obtain ⟨hlt, rfl⟩ := List.getElem?_eq_some_iff.1 h
    refine ⟨hlt, hx, fun j hj => ?_⟩
    have := List.all_eq_true.1 ha l[j] (by rw [List.mem_take_iff_getElem]; exact ⟨j, by omega, rfl⟩)
    simpa using this
  simp [idxOf, this]
theorem yf {α : Type} {p : α → Bool} {l : List α} (ha : l.all (fun x => !p x) = true) : idxOf p l = -1 := by
  have : l.findIdx? p = none := by
    rw [List.findIdx?_eq_none_iff]
    intro x hx
    simpa using List.all_eq_true.1 ha x hx
  simp [idxOf, this]
theorem yZ {α : Type} {p : α → Bool} {l : List α} : decide (0 ≤ idxOf p l) = l.any p := by
  unfold idxOf
  cases h : l.findIdx? p with
  | none =>
    rw [List.findIdx?_eq_none_iff] at h
    have : l.any p = false := by
      rw [List.any_eq_false]
      intro x hx
      simp [h x hx]
    simp [this]
  | some i =>
    have : l.any p = true := by
      rw [List.findIdx?_eq_some_iff_getElem] at h
      obtain ⟨hlt, hx, _⟩ := h
      exact List.any_eq_true.2 ⟨_, List.getElem_mem hlt, hx⟩
    simp [this]
end Go.Proofs.YtaokpncjemkhcaaGreat
