/-
  A part of the proof that contangolaw.TopHanded returns true: what the last text needs, and no more. No condition: no statement of the seat is proved here.
-/
import Derived.Carry
import Derived.ProofKit
import Derived.OpenShut
import Derived.Deep.Slices
import Derived.JoinedOf
import Derived.JoinedAt
import Derived.SizedLaws
import Derived.Test.YtaokpncjemkhcaaGreatTopHandedD
namespace Go.Proofs.YtaokpncjemkhcaaGreat
open Go.ChangeShapes Go.WideShapes Go.ChangeAt Go.RowKit
set_option linter.all false
/-- All cells that there are. -/
def live (w : World) (b o : Nat) : Prop := ∃ v, w.cell? ⟨b, o, none⟩ = some v
/-- Cells of a type are read as plain data of a form. -/
def Opens (P : Program) (t : TypeId) (S : List D → Prop) : Prop :=
  ∀ {H : Type} (enc : TypeId × Value → H) (w : World) (base : Nat) (spare : Nat → Bool) (held : Bool) (fuel : Nat) (cs : List Value) (x : DataW H × List MemPlace),
    DataW.trod enc P w base spare held fuel t cs = some x → (x.1.weights P t).all (· ≤ reachBytes) = true → ∃ ds, S ds ∧ RepVals (live w) w ds cs ∧ ∀ v ∈ cs, v.oneCell' = true
theorem zC9 {P : Program} {t : TypeId} {k : IntKind} (ht : P.underlying t = some (.int k)) : Opens P t fun ds => ∃ n, ds = [.int k n] ∧ (Lit.int k n).wf = true := by
  intro H enc w base spare held fuel cs x h hz
  obtain ⟨n, rfl, _, hw⟩ := DataW.trod_int ht h
  exact ⟨_, ⟨n, rfl, hw⟩, ⟨_, _, rfl, rfl, rfl⟩, fun v hv => by simp at hv; subst hv; rfl⟩
theorem zCq {w : World} {a : Addr} {v : Value} (h : w.cell? a = some v) : a = ⟨a.block, a.off, none⟩ := by
  obtain ⟨b, o, s⟩ := a
  cases s with
  | none => rfl
  | some q =>
    simp only [World.cell?] at h
    split at h
    · simp at h
    · cases h
theorem cells_rep {w : World} {base : Nat} {a : Addr} {n b o : Nat} {cs : List Value} {ds : List D} (ha : a = ⟨b, o, none⟩) (h : w.cells? base a n = some cs) (hr : RepVals (live w) w ds cs) (h1 : ∀ v ∈ cs, v.oneCell' = true) : RepCells (live w) w ds b o := by
  obtain ⟨_, hlen, hc⟩ := World.cells?_some h
  refine RepCells.of_vals hr h1 fun j v hj => ?_
  have hjl := (List.getElem?_eq_some_iff.1 hj).1
  have := hc j (by omega)
  rw [hj, ha] at this
  have e : (⟨b, o, none⟩ : Addr).add j = ⟨b, o + j, none⟩ := by
    unfold Addr.add
    split
    · subst_vars; rfl
    · rfl
  rw [e] at this
  exact ⟨this, v, this⟩
theorem zDk {w : World} {sz b : Nat} : ∀ {n o : Nat} {F : Nat → List D}, (∀ i, i < n → (F i).length = sz ∧ RepCells (live w) w (F i) b (o + i * sz)) → RepRows (live w) w ((List.range n).map F) b o sz
  | 0, _, _, _ => trivial
  | n + 1, o, F, h => by
    rw [List.range_succ_eq_map, List.map_cons, List.map_map]
    refine ⟨(h 0 (by omega)).1, by have := (h 0 (by omega)).2; simpa using this, ?_⟩
    exact zDk (F := F ∘ Nat.succ) fun i hi => ⟨(h (i + 1) (by omega)).1, by
      have := (h (i + 1) (by omega)).2
      rw [show o + sz + i * sz = o + (i + 1) * sz by rw [Nat.succ_mul]; omega]
      exact this⟩
theorem zAU {H : Type} {P : Program} {e : TypeId} {p : Nat → Bool} {d : DataW H} : ∀ {l : List (DataW H)}, (DataW.weightsAll P e l).all p = true → d ∈ l → (d.weights P e).all p = true
  | x :: l, h, hd => by
    simp only [DataW.weightsAll, List.all_append, Bool.and_eq_true] at h
    rcases List.mem_cons.1 hd with rfl | hd
    · exact h.1
    · exact zAU h.2 hd
theorem zAI {P : Program} {t e : TypeId} {sz : Nat} {S : List D → Prop} (ht : P.underlying t = some (.slice e)) (hc : P.cellsOf e = sz) (hsz : 0 < sz) (hS : ∀ ds, S ds → ds.length = sz) (he : Opens P e S) :
    Opens P t fun ds => ∃ es : List (List D), ds = [.slice sz es] ∧ es.length * P.bytesOf e ≤ reachBytes ∧ ∀ c ∈ es, S c := by
  intro H enc w base spare held fuel cs x h hz
  rcases Go.Deep.open_slice ht h with ⟨rfl, _⟩ | ⟨a, len, cap, m, n, Dt, Pl, rfl, hb, hl, hm, hmm, hx, hi⟩
  · exact ⟨_, ⟨[], rfl, by simp, fun c hc => by cases hc⟩, ⟨_, _, rfl, ⟨none, 0, rfl, Nat.le_refl _, Nat.zero_le _, .inl rfl⟩, rfl⟩, fun v hv => by simp at hv; subst hv; rfl⟩
  · have hlm : len ≤ m := by rw [hmm]; split <;> omega
    rw [hc] at hi
    rw [hx] at hz
    simp only [DataW.weights, ht, List.all_cons, List.all_append, Bool.and_eq_true, decide_eq_true_eq] at hz
    obtain ⟨hz1, hz2, hz3⟩ := hz
    have hzl : len * P.bytesOf e ≤ reachBytes := Nat.le_trans (Nat.mul_le_mul_right _ (by simp)) hz1
    have key : ∀ i, ∃ ds, i < len → S ds ∧ RepCells (live w) w ds a.block (a.off + i * sz) ∧ ∃ v, w.cell? (a.add (i * sz)) = some v := fun i => by
      by_cases hlt : i < len
      · obtain ⟨cs', h1, h2⟩ := hi i (by omega)
        obtain ⟨ds, k1, k2, k3⟩ := he enc w base spare held n cs' _ h2 (zAU hz2 (List.mem_map.2 ⟨i, List.mem_range.2 hlt, rfl⟩))
        obtain ⟨_, hlen, hcell⟩ := World.cells?_some h1
        obtain ⟨v, hv⟩ : ∃ v, w.cell? (a.add (i * sz)) = some v := by
          have := hcell 0 hsz
          rw [show (a.add (i * sz)).add 0 = a.add (i * sz) from rfl, List.getElem?_eq_getElem (by omega)] at this
          exact ⟨_, this⟩
        have hn := zCq hv
        have e1 : (a.add (i * sz)).block = a.block := by unfold Addr.add; split <;> rfl
        have e2 : (a.add (i * sz)).off = a.off + i * sz := by
          unfold Addr.add
          split
          · rename_i hz
            rw [hz]
            rfl
          · rfl
        rw [e1, e2] at hn
        exact ⟨ds, fun _ => ⟨k1, cells_rep hn h1 k2 k3, v, hv⟩⟩
      · exact ⟨[], fun h => absurd h hlt⟩
    let F : Nat → List D := fun i => Classical.choose (key i)
    have hF : ∀ i, i < len → S (F i) ∧ RepCells (live w) w (F i) a.block (a.off + i * sz) ∧ ∃ v, w.cell? (a.add (i * sz)) = some v := fun i => Classical.choose_spec (key i)
    refine ⟨_, ⟨(List.range len).map F, rfl, by simpa using hzl, fun c hc => ?_⟩, ⟨_, _, rfl, ⟨some a, cap, by simp, by simpa using hl, hm, ?_⟩, rfl⟩, fun v hv => by simp at hv; subst hv; rfl⟩
    · obtain ⟨i, hi, rfl⟩ := List.mem_map.1 hc
      exact (hF i (by simpa using hi)).1
    · by_cases h0 : len = 0
      · subst h0; exact .inl rfl
      · obtain ⟨_, _, v, hv⟩ := hF 0 (by omega)
        rw [show a.add (0 * sz) = a by rw [Nat.zero_mul]; rfl] at hv
        refine .inr ⟨a.block, a.off, by rw [← zCq hv], zDk fun i hi => ⟨hS _ (hF i hi).1, (hF i hi).2.1⟩⟩
/-- Lists of data, one behind the other. -/
def Parts : List (List D → Prop) → List D → Prop
  | [], ds => ds = []
  | S :: Ss, ds => ∃ a b, ds = a ++ b ∧ S a ∧ Parts Ss b
def FieldsOpen (P : Program) : Nat → List Field → List (List D → Prop) → Prop
  | _, [], [] => True
  | o, f :: fs, S :: Ss => f.offset = o ∧ Opens P f.type S ∧ FieldsOpen P (o + P.cellsOf f.type) fs Ss
  | _, _, _ => False
def offEnd (P : Program) : Nat → List Field → Nat
  | o, [] => o
  | o, f :: fs => offEnd P (o + P.cellsOf f.type) fs
theorem zDD {H : Type} {enc : TypeId × Value → H} {P : Program} {w : World} {base : Nat} {spare : Nat → Bool} {held : Bool} {n : Nat} {cs : List Value} : ∀ {fs : List Field} {Ss : List (List D → Prop)} {o : Nat}, FieldsOpen P o fs Ss → cs.length = offEnd P o fs →
    (∀ f ∈ fs, ∃ y, DataW.trod enc P w base spare held n f.type ((cs.drop f.offset).take (P.cellsOf f.type)) = some y ∧ (y.1.weights P f.type).all (· ≤ reachBytes) = true) → ∃ ds, Parts Ss ds ∧ RepVals (live w) w ds (cs.drop o) ∧ ∀ v ∈ cs.drop o, v.oneCell' = true
  | [], [], o, _, hl, _ => ⟨[], rfl, by simp only [offEnd] at hl; rw [List.drop_of_length_le (by omega)]; rfl, fun v hv => by simp only [offEnd] at hl; rw [List.drop_of_length_le (by omega)] at hv; cases hv⟩
  | [], _ :: _, _, h, _, _ => h.elim
  | _ :: _, [], _, h, _, _ => h.elim
  | f :: fs, S :: Ss, o, ⟨ho, hS, hF⟩, hl, hy => by
    obtain ⟨y, hy1, hyz⟩ := hy f List.mem_cons_self
    rw [ho] at hy1
    obtain ⟨a, ka, kb, kc⟩ := hS enc w base spare held n _ _ hy1 hyz
    obtain ⟨b, q1, q2, q3⟩ := zDD (enc := enc) (w := w) (base := base) (spare := spare) (held := held) (n := n) hF hl fun g hg => hy g (List.mem_cons_of_mem _ hg)
    have e : cs.drop o = (cs.drop o).take (P.cellsOf f.type) ++ cs.drop (o + P.cellsOf f.type) := by
      rw [← List.drop_drop, List.take_append_drop]
    refine ⟨a ++ b, ⟨a, b, rfl, ka, q1⟩, by rw [e]; exact kb.append q2, fun v hv => ?_⟩
    rw [e] at hv
    rcases List.mem_append.1 hv with hv | hv
    · exact kc v hv
    · exact q3 v hv
theorem kC {P : Program} {t : TypeId} {fs : Array Field} {Ss : List (List D → Prop)} (ht : P.underlying t = some (.struct fs)) (hF : FieldsOpen P 0 fs.toList Ss) (hc : P.cellsOf t = offEnd P 0 fs.toList) : Opens P t (Parts Ss) := by
  intro H enc w base spare held fuel cs x h hz
  obtain ⟨xs, n, _, hx, hl, hxs, hf⟩ := DataW.trod_struct ht h
  rw [hx] at hz
  simp only [DataW.weights, ht] at hz
  have := zDD (enc := enc) (w := w) (base := base) (spare := spare) (held := held) (n := n) (cs := cs) hF (by rw [hl, hc]) fun f hfm => by
    obtain ⟨i, hi⟩ := List.getElem?_of_mem hfm
    have hi' : fs[i]? = some f := by simpa using hi
    have hlt := (Array.getElem?_eq_some_iff.1 hi').1
    refine ⟨xs[i]'(by omega), by rw [hf i f hi', List.getElem?_eq_getElem], List.all_eq_true.2 fun q hq => List.all_eq_true.1 hz q (DataW.weights_mem_each (j := i) (t := f.type) (d := (xs[i]'(by omega)).1) (by rw [List.getElem?_map, hi]; rfl) (by rw [List.getElem?_map, List.getElem?_eq_getElem (by omega)]; rfl) q hq)⟩
  simpa using this
/-- A parameter of a type is read as plain data of a form. -/
def OpensP (P : Program) (t : TypeId) (S : D → Prop) : Prop :=
  ∀ {H : Type} (enc : TypeId × Value → H) (w : World) (r : Reach) (b0 base : Nat) (spare : Nat → Bool) (held : Bool) (v : Value) (d : DataW H) (p : List MemPlace),
    Value.okWide P w r b0 t v → DataW.Trod enc P w base spare held t v d p → (d.weights P t).all (· ≤ reachBytes) = true → ∃ x, S x ∧ Rep (live w) w x v
theorem opensP_struct {P : Program} {t : TypeId} {fs : Array Field} {S : List D → Prop} (ht : P.underlying t = some (.struct fs)) (h : Opens P t S) : OpensP P t fun d => ∃ ds, d = .agg ds ∧ S ds := by
  intro H enc w r b0 base spare held v d p hv ⟨fuel, hr⟩ hz
  obtain ⟨cs, rfl, _⟩ := okWide_struct ht hv
  obtain ⟨ds, k1, k2, k3⟩ := h enc w base spare held fuel _ _ hr hz
  exact ⟨_, ⟨ds, rfl, k1⟩, cs.toList, rfl, k2, k3⟩
theorem opensP_one {P : Program} {t : TypeId} {S : List D → Prop} {S' : D → Prop} (hone : ∀ {w : World} {r : Reach} {b0 : Nat} {v : Value}, Value.okWide P w r b0 t v → v.cells = #[v]) (h : Opens P t S) (hS : ∀ ds, S ds → ∃ x, ds = [x] ∧ S' x) : OpensP P t S' := by
  intro H enc w r b0 base spare held v d p hv ⟨fuel, hr⟩ hz
  rw [hone hv] at hr
  obtain ⟨ds, k1, k2, k3⟩ := h enc w base spare held fuel _ _ hr hz
  obtain ⟨x, rfl, hx⟩ := hS ds k1
  obtain ⟨u, us, e, hu, _⟩ := k2
  simp at e
  exact ⟨x, hx, by rw [e.1]; exact hu⟩
theorem opensP_int {P : Program} {t : TypeId} {k : IntKind} (ht : P.underlying t = some (.int k)) : OpensP P t fun d => ∃ n, d = .int k n ∧ (Lit.int k n).wf = true :=
  opensP_one (fun hv => by obtain ⟨n, rfl⟩ := okWide_int ht hv; rfl) (zC9 ht) fun _ ⟨n, e, hw⟩ => ⟨_, e, n, rfl, hw⟩
def Sat : List (D → Prop) → List D → Prop
  | [], ds => ds = []
  | S :: Ss, ds => ∃ d ds', ds = d :: ds' ∧ S d ∧ Sat Ss ds'
def OpensAll (P : Program) : List TypeId → List (D → Prop) → Prop
  | [], [] => True
  | t :: ts, S :: Ss => OpensP P t S ∧ OpensAll P ts Ss
  | _, _ => False
theorem zC2 {H : Type} {enc : TypeId × Value → H} {P : Program} {w : World} {b0 base : Nat} {spare : Nat → Bool} {held : Bool} : ∀ {ts : List TypeId} {Ss : List (D → Prop)} {vs : List Value} {ds : List (DataW H)} {p : List MemPlace}, OpensAll P ts Ss → DataW.TrodAll enc P w base spare held ts vs ds p →
    (∀ (j : Nat) t v, ts[j]? = some t → vs[j]? = some v → Value.okWide P w .any b0 t v) → (DataW.weightsEach P ts ds).all (· ≤ reachBytes) = true → ∃ xs, Sat Ss xs ∧ RepVals (live w) w xs vs
  | [], [], _, _, _, _, h, _, _ => by
    obtain ⟨rfl, _, _⟩ := trodAll_nil h
    exact ⟨[], rfl, rfl⟩
  | [], _ :: _, _, _, _, h, _, _, _ => h.elim
  | _ :: _, [], _, _, _, h, _, _, _ => h.elim
  | t :: ts, S :: Ss, _, _, _, ⟨h1, h2⟩, h, hv, hz => by
    obtain ⟨v, vs, d, ds, p, q, rfl, rfl, rfl, k1, k2⟩ := trodAll_cons h
    simp only [DataW.weightsEach, List.all_append, Bool.and_eq_true] at hz
    obtain ⟨x, s1, s2⟩ := h1 enc w .any b0 base spare held v d p (hv 0 t v rfl rfl) k1 hz.1
    obtain ⟨xs, s3, s4⟩ := zC2 (b0 := b0) h2 k2 (fun j t v hj hv' => hv (j + 1) t v (by simpa using hj) (by simpa using hv')) hz.2
    exact ⟨x :: xs, ⟨x, xs, rfl, s1, s3⟩, v, vs, rfl, s2, s4⟩
theorem zAn {H : Type} {enc : TypeId × Value → H} {P : Program} (hl : laidOutB P = true) {W W' : World} (hb : Below W.heap.size W W') : ∀ {ts : List TypeId} {vs : List Value} {ds : List (DataW H)} {p : List MemPlace}, (ts.all fun t => P.readableRec t && decide (t < P.types.size)) = true → (∀ x ∈ p, x.block < W.heap.size) →
    DataW.TrodAll enc P W 0 (fun _ => true) true ts vs ds p → DataW.TrodAll enc P W' 0 (fun b => decide (b < W.heap.size)) true ts vs ds p
  | [], _, _, _, _, _, h => by
    obtain ⟨rfl, rfl, rfl⟩ := trodAll_nil h
    exact trodAll_mk0
  | t :: ts, _, _, _, ht, hp, h => by
    obtain ⟨v, vs, d, ds, p, q, rfl, rfl, rfl, k1, k2⟩ := trodAll_cons h
    simp only [List.all_cons, Bool.and_eq_true, decide_eq_true_eq] at ht
    exact ⟨p, q, Below.trod hl ht.1.1 ht.1.2 k1 hb fun x hx => hp x (List.mem_append_left _ hx), zAn hl hb (by simpa using ht.2) (fun x hx => hp x (List.mem_append_right _ hx)) k2, rfl⟩
theorem zBm {H : Type} {enc : TypeId × Value → H} {P : Program} {w : World} {base : Nat} {spare : Nat → Bool} {held : Bool} : ∀ {ts : List TypeId} {vs : List Value} {ds : List (DataW H)} {p : List MemPlace}, DataW.TrodAll enc P w base spare held ts vs ds p → ds.length = ts.length
  | [], _, _, _, h => by
    obtain ⟨_, rfl, _⟩ := trodAll_nil h
    rfl
  | t :: ts, _, _, _, h => by
    obtain ⟨v, vs, d, ds, p, q, rfl, rfl, rfl, k1, k2⟩ := trodAll_cons h
    simp [zBm k2]
/-- What a law's row asks of one call, out of a contract. -/
theorem law_contract {H : Type} {enc : TypeId × Value → H} {P : Program} {f : FuncId} {fn : Func} {s : ChangeSpec} {apart : Bool} {tb : TypeId} {ts : List TypeId} {Ss : List (D → Prop)} (hl : laidOutB P = true) (hts : fn.params.toList = ts) (hrr : (ts.all fun t => P.readableRec t && decide (t < P.types.size)) = true)
    (hres : fn.resultTypes = #[tb]) (htb : P.underlying tb = some .bool) (hvars : s.vars = []) (hvt : s.plain.varTypes P = [])
    (hs : ∀ ds : List (DataW H), ds.length = ts.length → s.fn H ds = { results := [.lit (.bool true)], args := ds })
    (ho : OpensAll P ts Ss) (hp : ∀ xs, Sat Ss xs → PureAt P f xs (.bool true)) :
    ∀ (W : World) (base : Nat) (args : Array Value) (ds gs : List (DataW H)) (before : List MemPlace),
      (∀ (j : Nat) t v, fn.params[j]? = some t → args[j]? = some v → Value.okWide P W .any base t v) →
      DataW.Whole enc P fn.params.toList s.vars apart W args.toList ds gs before →
      (DataW.weightsEach P (fn.params.toList ++ s.plain.varTypes P) (ds ++ gs)).all (· ≤ reachBytes) = true → GOK W (fun _ => False) →
      Calls P f args W fun e W' => ∃ v, e = .returned v ∧ s.post enc P fn apart true false false W args v W' := by
  intro W base args ds gs before hval hW hz hG
  have hW' := hW
  have hlt := hW.lt
  obtain ⟨p, q, hA0, hV, rfl, _, _⟩ := hW
  rw [hvars] at hV
  obtain ⟨rfl, rfl⟩ := trodVars_none hV
  rw [List.append_nil] at hlt
  have hA : DataW.TrodAll enc P W 0 (fun _ => true) true fn.params.toList args.toList ds p := hA0
  rw [hts] at hA
  rw [hvt, List.append_nil, List.append_nil, hts] at hz
  obtain ⟨xs, h1, h2⟩ := zC2 (b0 := base) ho hA (fun j t v hj hv => hval j t v (by rw [← hts] at hj; simpa using hj) (by simpa using hv)) hz
  have hlen : ds.length = ts.length := zBm hA
  refine ((hp xs h1).2 W (live W) args.toList (fun b o h => h) hG h2).mono fun e W' he => ?_
  obtain ⟨v, F', rfl, hb, hr, _⟩ := he
  obtain rfl : v = .bool true := hr
  refine ⟨_, rfl, ds, [], _, [], p, [], hW', ?_, ?_, ?_, hb.frame _, fun h => by cases h⟩
  · rw [List.append_nil, hs ds hlen, hres]
    exact trodAll_cons_mk (shut_bool htb _) trodAll_mk0
  · rw [List.append_nil, hs ds hlen, hts]
    exact zAn hl hb hrr hlt hA
  · rw [List.append_nil, hs ds hlen, hvars]
    rfl
end Go.Proofs.YtaokpncjemkhcaaGreat
namespace Go.Proofs.YtaokpncjemkhcaaGreat
set_option linter.all false
structure Due8 where
  frm : Int
  to : Int
  num : Int
def sumI : List Int → Int
  | [] => 0
  | x :: xs => x + sumI xs
theorem kU : ∀ (l m : List Int), sumI (l ++ m) = sumI l + sumI m
  | [], m => by simp [sumI]
  | x :: l, m => by simp only [List.cons_append, sumI, kU l m]; omega
def owedI : List Due8 → Int
  | [] => 0
  | q :: qs => q.num + owedI qs
theorem zBR : ∀ (l m : List Due8), owedI (l ++ m) = owedI l + owedI m
  | [], m => by simp [owedI]
  | x :: l, m => by simp only [List.cons_append, owedI, zBR l m]; omega
/-- From n down to 0. -/
def downs : Nat → List Int
  | 0 => [0]
  | n + 1 => ((n + 1 : Nat) : Int) :: downs n
theorem zC5 : ∀ {n : Nat} {x : Int}, x ∈ downs n ↔ 0 ≤ x ∧ x ≤ n
  | 0, x => by simp only [downs, List.mem_singleton]; omega
  | n + 1, x => by simp only [downs, List.mem_cons, zC5 (n := n)]; omega
def allDl : List Due8 → List (List Int)
  | [] => [[]]
  | q :: qs => (downs q.num.toNat).flatMap fun x => (allDl qs).map fun d => x :: d
def listedB : List Due8 → List Int → Bool
  | [], [] => true
  | q :: qs, x :: xs => (decide (0 ≤ x) && decide (x ≤ q.num)) && listedB qs xs
  | _, _ => false
def Num0 (qs : List Due8) : Prop := ∀ q ∈ qs, 0 ≤ q.num
theorem Num0.tail {q : Due8} {qs : List Due8} (h : Num0 (q :: qs)) : Num0 qs := fun x hx => h x (List.mem_cons_of_mem _ hx)
theorem kH : ∀ {qs : List Due8} {d : List Int}, Num0 qs → (d ∈ allDl qs ↔ listedB qs d = true)
  | [], d, _ => by cases d <;> simp [allDl, listedB]
  | q :: qs, d, h => by
    have hq := h q List.mem_cons_self
    cases d with
    | nil => simp [allDl, listedB]
    | cons x xs =>
      simp only [allDl, List.mem_flatMap, List.mem_map, listedB, Bool.and_eq_true, decide_eq_true_eq, zC5]
      constructor
      · rintro ⟨y, hy, z, hz, e⟩
        cases e
        exact ⟨⟨hy.1, by omega⟩, (kH h.tail).1 hz⟩
      · rintro ⟨⟨h1, h2⟩, h3⟩
        exact ⟨x, ⟨h1, by omega⟩, xs, (kH h.tail).2 h3, rfl⟩
theorem zCc : ∀ {qs : List Due8} {d : List Int}, listedB qs d = true → d.length = qs.length
  | [], [], _ => rfl
  | [], _ :: _, h => by simp [listedB] at h
  | _ :: _, [], h => by simp [listedB] at h
  | q :: qs, x :: xs, h => by
    simp only [listedB, Bool.and_eq_true] at h
    simp [zCc h.2]
theorem zAB : ∀ {qs : List Due8} {d : List Int}, listedB qs d = true → 0 ≤ sumI d ∧ sumI d ≤ owedI qs
  | [], [], _ => by simp [sumI, owedI]
  | [], _ :: _, h => by simp [listedB] at h
  | _ :: _, [], h => by simp [listedB] at h
  | q :: qs, x :: xs, h => by
    simp only [listedB, Bool.and_eq_true, decide_eq_true_eq] at h
    have := zAB h.2
    simp only [sumI, owedI]; omega
/-- Due number w, if it is among those from number i on, is delivered whole. -/
def wholeB (w : Int) : Nat → List Due8 → List Int → Bool
  | i, q :: qs, x :: xs => (((i : Int) != w) || (x == q.num)) && wholeB w (i + 1) qs xs
  | _, _, _ => true
def searchD (can : List Int → Bool) (w : Int) : Nat → List Due8 → List Int → Int → Option (List Int)
  | _, [], pre, b => if (b == 0 && can pre) = true then some pre else none
  | i, q :: qs, pre, b => (List.range ((if (i : Int) = w then 0 else min b q.num).toNat + 1)).findSome? fun (n : Nat) => searchD can w (i + 1) qs (pre ++ [q.num - (n : Int)]) (b - (n : Int))
theorem findSome_range {α : Type} {f : Nat → Option α} {m N : Nat} (h : m ≤ N) (hf : ∀ n, m < n → n ≤ N → f n = none) : (List.range (N + 1)).findSome? f = (List.range (m + 1)).findSome? f := by
  obtain ⟨k, rfl⟩ := Nat.exists_eq_add_of_le h
  rw [show m + k + 1 = (m + 1) + k by omega, List.range_add, List.findSome?_append]
  have : (List.map (fun x => m + 1 + x) (List.range k)).findSome? f = none := by
    rw [List.findSome?_eq_none_iff]
    intro x hx
    obtain ⟨y, hy, rfl⟩ := List.mem_map.1 hx
    rw [List.mem_range] at hy
    exact hf _ (by omega) (by omega)
  rw [this]; simp
theorem zAJ {α β : Type} {f g : α → Option β} : ∀ {l : List α}, (∀ x ∈ l, f x = g x) → l.findSome? f = l.findSome? g
  | [], _ => rfl
  | x :: l, h => by
    rw [List.findSome?_cons, List.findSome?_cons, h x List.mem_cons_self, zAJ fun y hy => h y (List.mem_cons_of_mem _ hy)]
theorem zBr : ∀ n : Nat, downs n = (List.range (n + 1)).map fun (k : Nat) => (n : Int) - (k : Int)
  | 0 => by simp [downs]
  | n + 1 => by
    rw [downs, zBr n, List.range_succ_eq_map (n := n + 1)]
    simp only [List.map_cons, List.map_map]
    congr 1
    apply List.map_congr_left
    intro k _
    simp only [Function.comp]
    omega
theorem zBs (can : List Int → Bool) (w : Int) : ∀ (i : Nat) (qs : List Due8) (pre : List Int) (b : Int), Num0 qs → 0 ≤ b →
    searchD can w i qs pre b = ((allDl qs).find? fun d => (owedI qs - sumI d == b && wholeB w i qs d) && can (pre ++ d)).map fun d => pre ++ d
  | i, [], pre, b, _, hb => by
    simp only [searchD, allDl, List.find?_singleton, owedI, sumI, wholeB, List.append_nil, Bool.and_true, show (0 : Int) - 0 = 0 from rfl]
    rw [show ((0 : Int) == b) = (b == 0) from by rw [Bool.eq_iff_iff]; simp; omega]
    split <;> simp_all
  | i, q :: qs, pre, b, h, hb => by
    have hq := h q List.mem_cons_self
    obtain ⟨N, hN⟩ : ∃ N : Nat, q.num = (N : Int) := ⟨q.num.toNat, by omega⟩
    have hNt : q.num.toNat = N := by omega
    simp only [searchD, allDl, List.find?_flatMap, hNt, zBr, List.findSome?_map, Function.comp_def, List.find?_map]
    rw [List.map_findSome?]
    generalize hm : (if (i : Int) = w then 0 else min b q.num).toNat = m
    have hmN : m ≤ N := by rw [← hm]; split <;> omega
    rw [findSome_range hmN (fun n h1 h2 => by
      simp only [Function.comp, Option.map_eq_none_iff, List.find?_eq_none]
      intro d hd
      have hl := zAB ((kH h.tail).1 hd)
      simp only [owedI, sumI, wholeB, hN, Bool.and_eq_true, beq_iff_eq, Bool.or_eq_true, bne_iff_ne, not_and]
      intro h3 h4
      exfalso
      obtain ⟨ha, h4⟩ := h3
      obtain ⟨h5, _⟩ := h4
      rw [← hm] at h1
      by_cases hw : (i : Int) = w
      · rw [if_pos hw] at h1
        rcases h5 with h5 | h5
        · exact h5 hw
        · omega
      · rw [if_neg hw] at h1
        omega)]
    apply zAJ
    intro n hn
    rw [List.mem_range] at hn
    have hnb : (n : Int) ≤ b ∧ (n : Int) ≤ q.num := by rw [← hm] at hn; split at hn <;> omega
    rw [zBs can w (i + 1) qs _ _ h.tail (by omega)]
    simp only [Function.comp, hN, Option.map_map]
    have e1 : (fun d : List Int => (owedI qs - sumI d == b - (n : Int) && wholeB w (i + 1) qs d) && can (pre ++ [(N : Int) - (n : Int)] ++ d)) =
        fun d => (owedI (q :: qs) - sumI (((N : Int) - (n : Int)) :: d) == b && wholeB w i (q :: qs) (((N : Int) - (n : Int)) :: d)) && can (pre ++ ((N : Int) - (n : Int)) :: d) := by
      funext d
      have ea : (owedI qs - sumI d == b - (n : Int)) = (owedI (q :: qs) - sumI (((N : Int) - (n : Int)) :: d) == b) := by
        rw [Bool.eq_iff_iff]; simp only [beq_iff_eq, owedI, sumI, hN]; omega
      have eb : wholeB w i (q :: qs) (((N : Int) - (n : Int)) :: d) = wholeB w (i + 1) qs d := by
        simp only [wholeB, hN]
        by_cases hw : (i : Int) = w
        · have : n = 0 := by rw [← hm, if_pos hw] at hn; simpa using hn
          subst this; simp
        · simp [hw]
      rw [ea, eb, List.append_assoc]; rfl
    rw [e1]
    congr 1
    funext d
    simp
end Go.Proofs.YtaokpncjemkhcaaGreat
namespace Go.Proofs.YtaokpncjemkhcaaGreat
set_option linter.all false
def bestD (can : List Int → Bool) (w : Int) (qs : List Due8) : Option (List Int × Int) :=
  (List.range ((owedI qs).toNat + 1)).findSome? fun (n : Nat) => (searchD can w 0 qs [] (n : Int)).map fun d => (d, (n : Int))
/-- What is asked of a list. -/
def okD (can : List Int → Bool) (w : Int) (qs : List Due8) (d : List Int) : Bool := wholeB w 0 qs d && can d
theorem zBU (can : List Int → Bool) (w : Int) (qs : List Due8) (b : Int) (h : Num0 qs) (hb : 0 ≤ b) :
    searchD can w 0 qs [] b = (allDl qs).find? fun d => owedI qs - sumI d == b && okD can w qs d := by
  rw [zBs can w 0 qs [] b h hb]
  simp only [List.nil_append, Option.map_id', Bool.and_assoc, okD]
theorem best_some {can : List Int → Bool} {w : Int} {qs : List Due8} {d : List Int} {n : Int} (h : Num0 qs) (hs : bestD can w qs = some (d, n)) :
    listedB qs d = true ∧ okD can w qs d = true ∧ n = owedI qs - sumI d ∧ (∀ e, listedB qs e = true → okD can w qs e = true → sumI e ≤ sumI d) ∧
    (allDl qs).find? (fun e => owedI qs - sumI e == n && okD can w qs e) = some d := by
  unfold bestD at hs
  obtain ⟨l₁, k, l₂, hl, hk, hno⟩ := List.findSome?_eq_some_iff.1 hs
  rw [Option.map_eq_some_iff] at hk
  obtain ⟨d', hd', e⟩ := hk
  cases e
  have hf := hd'
  rw [zBU can w qs _ h (by omega)] at hf
  have hmem := List.mem_of_find?_eq_some hf
  have hp := List.find?_some hf
  simp only [Bool.and_eq_true, beq_iff_eq] at hp
  refine ⟨(kH h).1 hmem, hp.2, by omega, fun e he ho => ?_, hf⟩
  have hse := zAB he
  rcases Int.lt_or_le (sumI d) (sumI e) with hlt | hle
  · exfalso
    -- the number that e leaves over comes earlier
    obtain ⟨m, hm⟩ : ∃ m : Nat, owedI qs - sumI e = (m : Int) := ⟨(owedI qs - sumI e).toNat, by omega⟩
    have hmk : m < k := by omega
    have hk1 : l₁.length = k := by
      have h1 := congrArg (fun l => l[l₁.length]?) hl
      simp only [List.getElem?_append_right (Nat.le_refl _), Nat.sub_self, List.getElem?_cons_zero] at h1
      obtain ⟨hlt', he'⟩ := List.getElem?_eq_some_iff.1 h1
      simpa using he'
    have hml : m ∈ l₁ := by
      have h1 : (List.range ((owedI qs).toNat + 1))[m]? = some m := by rw [List.getElem?_range (by omega)]
      rw [hl, List.getElem?_append_left (by omega)] at h1
      exact List.mem_of_getElem? h1
    have := hno m hml
    rw [Option.map_eq_none_iff, zBU can w qs _ h (by omega), List.find?_eq_none] at this
    have := this e ((kH h).2 he)
    simp [ho, hm] at this
  · exact hle
theorem best_none {can : List Int → Bool} {w : Int} {qs : List Due8} (h : Num0 qs) (hs : bestD can w qs = none) (e : List Int) (he : listedB qs e = true) : okD can w qs e = false := by
  unfold bestD at hs
  rw [List.findSome?_eq_none_iff] at hs
  have hse := zAB he
  have := hs (owedI qs - sumI e).toNat (by rw [List.mem_range]; omega)
  rw [Option.map_eq_none_iff, zBU can w qs _ h (by omega), List.find?_eq_none] at this
  have := this e ((kH h).2 he)
  rw [show (((owedI qs - sumI e).toNat : Nat) : Int) = owedI qs - sumI e by omega] at this
  simpa using this
theorem best_isSome {can : List Int → Bool} {w : Int} {qs : List Due8} (h : Num0 qs) : (bestD can w qs).isSome = true ↔ ∃ e, listedB qs e = true ∧ okD can w qs e = true := by
  constructor
  · intro hs
    obtain ⟨⟨d, n⟩, hd⟩ := Option.isSome_iff_exists.1 hs
    have := best_some h hd
    exact ⟨d, this.1, this.2.1⟩
  · rintro ⟨e, he, ho⟩
    cases hb : bestD can w qs with
    | some x => rfl
    | none => rw [best_none h hb e he] at ho; cases ho
end Go.Proofs.YtaokpncjemkhcaaGreat
namespace Go.Proofs.YtaokpncjemkhcaaGreat
set_option linter.all false
def sumN (f : Nat → Int) : Nat → Int
  | 0 => 0
  | n + 1 => sumN f n + f n
theorem zBd {f g : Nat → Int} : ∀ {n : Nat}, (∀ i, i < n → f i ≤ g i) → sumN f n ≤ sumN g n
  | 0, _ => Int.le_refl _
  | n + 1, h => by
    have h1 := zBd (n := n) fun i hi => h i (by omega)
    have h2 := h n (by omega)
    simp only [sumN]; omega
theorem sumN_congr {f g : Nat → Int} : ∀ {n : Nat}, (∀ i, i < n → f i = g i) → sumN f n = sumN g n
  | 0, _ => rfl
  | n + 1, h => by simp only [sumN, sumN_congr (n := n) fun i hi => h i (by omega), h n (by omega)]
theorem zBT {f : Nat → Int} : ∀ {n : Nat}, (∀ i, i < n → f i = 0) → sumN f n = 0
  | 0, _ => rfl
  | n + 1, h => by simp only [sumN, zBT (n := n) fun i hi => h i (by omega), h n (by omega)]; rfl
theorem zAY {f : Nat → Int} : ∀ {n : Nat}, (∀ i, i < n → 0 ≤ f i) → 0 ≤ sumN f n
  | 0, _ => Int.le_refl _
  | n + 1, h => by
    have h1 := zAY (n := n) fun i hi => h i (by omega)
    have h2 := h n (by omega)
    simp only [sumN]; omega
/-- What comes and goes at a house. -/
def netH : List Due8 → List Int → Int → Int
  | q :: qs, x :: xs, h => ((if q.to = h then x else 0) - (if q.frm = h then x else 0)) + netH qs xs h
  | _, _, _ => 0
theorem zBu : ∀ (A : List Due8) (a : List Int) (B : List Due8) (b : List Int) (h : Int), a.length = A.length → netH (A ++ B) (a ++ b) h = netH A a h + netH B b h
  | [], [], B, b, h, _ => by simp [netH]
  | [], _ :: _, _, _, _, e => by cases e
  | _ :: _, [], _, _, _, e => by cases e
  | q :: A, x :: a, B, b, h, e => by
    simp only [List.cons_append, netH, zBu A a B b h (by simpa using e)]; omega
def leftH (hand : List Int) (qs : List Due8) (d : List Int) (h : Nat) : Int := hand.getD h 0 + netH qs d (h : Int)
def lackP (N : Nat) (left : Nat → Int) : Int := sumN (fun h => max 0 (-(left h))) N
def lentP (N : Nat) (ls : Nat → Bool) (had left : Nat → Int) : Int := sumN (fun h => if ls h = true then max 0 (min (left h) (had h)) else 0) N
def canP (N : Nat) (ls : Nat → Bool) (hand : List Int) (qs : List Due8) (d : List Int) : Bool :=
  decide (lackP N (leftH hand qs d) ≤ lentP N ls (fun h => hand.getD h 0) (leftH hand qs d))
theorem lent_nonneg (N : Nat) (ls : Nat → Bool) (had left : Nat → Int) : 0 ≤ lentP N ls had left := zAY fun i _ => by (try dsimp only); split <;> omega
theorem can_of_lack {N : Nat} {ls : Nat → Bool} {hand : List Int} {qs : List Due8} {d : List Int} (h : ∀ i, i < N → 0 ≤ leftH hand qs d i) : canP N ls hand qs d = true := by
  unfold canP
  have h1 : lackP N (leftH hand qs d) = 0 := zBT fun i hi => by have := h i hi; (try dsimp only); omega
  have := lent_nonneg N ls (fun h => hand.getD h 0) (leftH hand qs d)
  simp only [decide_eq_true_eq]; omega
theorem zDn {N : Nat} {ls ls' : Nat → Bool} {hand hand' : List Int} {qs qs' : List Due8} {d d' : List Int} (h1 : ∀ i, i < N → hand.getD i 0 ≤ hand'.getD i 0) (h2 : ∀ i, i < N → ls i = true → ls' i = true)
    (h3 : ∀ i, i < N → netH qs d (i : Int) = netH qs' d' (i : Int)) (hc : canP N ls hand qs d = true) : canP N ls' hand' qs' d' = true := by
  unfold canP at hc ⊢
  simp only [decide_eq_true_eq] at hc ⊢
  have a : lackP N (leftH hand' qs' d') ≤ lackP N (leftH hand qs d) := zBd fun i hi => by have := h1 i hi; have := h3 i hi; simp only [leftH]; omega
  have b : lentP N ls (fun h => hand.getD h 0) (leftH hand qs d) ≤ lentP N ls' (fun h => hand'.getD h 0) (leftH hand' qs' d') := zBd fun i hi => by
    have k1 := h1 i hi; have k2 := h2 i hi; have k3 := h3 i hi
    simp only [leftH]
    by_cases hl : ls i = true
    · rw [if_pos hl, if_pos (k2 hl)]; omega
    · rw [if_neg hl]; split <;> omega
  omega
theorem can_alone {N : Nat} {hand : List Int} {f t c : Int} (h : ∀ i, i < N → 0 ≤ hand.getD i 0) (hf : 0 ≤ f ∧ f < N) (hft : f ≠ t) (hc : 0 ≤ c) :
    canP N (fun _ => false) hand [⟨f, t, c⟩] [c] = decide (c ≤ hand.getD f.toNat 0) := by
  rw [Bool.eq_iff_iff]
  simp only [decide_eq_true_eq]
  constructor
  · intro hcan
    unfold canP at hcan
    simp only [decide_eq_true_eq] at hcan
    have h0 : lentP N (fun _ => false) (fun h => hand.getD h 0) (leftH hand [⟨f, t, c⟩] [c]) = 0 := zBT fun i _ => by simp
    rw [h0] at hcan
    rcases Int.lt_or_le (hand.getD f.toNat 0) c with hlt | hle
    · exfalso
      have hpos : ∀ n : Nat, n ≤ N → f < n → 0 < sumN (fun h => max 0 (-(leftH hand [⟨f, t, c⟩] [c] h))) n := fun n => by
        induction n with
        | zero => intro _ h2; omega
        | succ n ih =>
          intro h1 h2
          simp only [sumN]
          have hnn : 0 ≤ sumN (fun h => max 0 (-(leftH hand [⟨f, t, c⟩] [c] h))) n := zAY fun i _ => by (try dsimp only); omega
          by_cases he : f = (n : Int)
          · have : leftH hand [⟨f, t, c⟩] [c] n < 0 := by
              simp only [leftH, netH, if_pos he, if_neg (show ¬ t = (n : Int) by omega)]
              have : f.toNat = n := by omega
              rw [this] at hlt
              omega
            omega
          · have := ih (by omega) (by omega)
            omega
      have := hpos N (Nat.le_refl _) hf.2
      unfold lackP at hcan
      omega
    · exact hle
  · intro hle
    refine can_of_lack fun i hi => ?_
    have := h i hi
    simp only [leftH, netH]
    by_cases he : f = (i : Int)
    · rw [if_pos he, if_neg (show ¬ t = (i : Int) by omega)]
      have : f.toNat = i := by omega
      rw [this] at hle
      omega
    · rw [if_neg he]
      split <;> omega
end Go.Proofs.YtaokpncjemkhcaaGreat
namespace Go.Proofs.YtaokpncjemkhcaaGreat
set_option linter.all false
set_option maxHeartbeats 4000000
def lexB : List Int → List Int → Bool
  | x :: a, y :: b => bif x != y then decide (x < y) else lexB a b
  | _, _ => false
theorem zA4 : ∀ {a : List Int}, lexB a a = false
  | [] => rfl
  | x :: a => by show (bif x != x then decide (x < x) else lexB a a) = false; rw [show (x != x) = false by simp]; exact zA4
theorem yd {x y : Int} {a b : List Int} : lexB (x :: a) (y :: b) = true ↔ x < y ∨ x = y ∧ lexB a b = true := by
  show (bif x != y then decide (x < y) else lexB a b) = true ↔ _
  by_cases e : x = y
  · subst e; rw [show (x != x) = false by simp]; simp
  · rw [show (x != y) = true by simpa using e]; simp [e]
theorem zEi : ∀ {l a b : List Int}, lexB (l ++ a) (l ++ b) = lexB a b
  | [], _, _ => rfl
  | x :: l, a, b => by
    show (bif x != x then decide (x < x) else lexB (l ++ a) (l ++ b)) = _
    rw [show (x != x) = false by simp]; exact zEi
theorem zEq : ∀ {a b c : List Int}, lexB a b = true → lexB b c = true → lexB a c = true
  | x :: a, y :: b, z :: c, h1, h2 => by
    rw [yd] at h1 h2 ⊢
    rcases h1 with h1 | ⟨rfl, h1⟩
    · rcases h2 with h2 | ⟨rfl, h2⟩
      · left; omega
      · left; exact h1
    · rcases h2 with h2 | ⟨rfl, h2⟩
      · left; exact h2
      · right; exact ⟨rfl, zEq h1 h2⟩
  | [], _, _, h1, _ => by cases h1
  | _ :: _, [], _, h1, _ => by cases h1
  | _ :: _, _ :: _, [], _, h2 => by cases h2
theorem zEd : ∀ {a b : List Int}, a.length = b.length → lexB a b = false → lexB b a = false → a = b
  | [], [], _, _, _ => rfl
  | x :: a, y :: b, hl, h1, h2 => by
    have n1 : ¬ (x < y ∨ x = y ∧ lexB a b = true) := fun h => by rw [yd.2 h] at h1; cases h1
    have n2 : ¬ (y < x ∨ y = x ∧ lexB b a = true) := fun h => by rw [yd.2 h] at h2; cases h2
    obtain rfl : x = y := by omega
    rw [zEd (a := a) (b := b) (by simpa using hl) (by cases h : lexB a b; rfl; exact (n1 (.inr ⟨rfl, h⟩)).elim) (by cases h : lexB b a; rfl; exact (n2 (.inr ⟨rfl, h⟩)).elim)]
  | [], _ :: _, h, _, _ => by cases h
  | _ :: _, [], h, _, _ => by cases h
end Go.Proofs.YtaokpncjemkhcaaGreat
namespace Go.Proofs.YtaokpncjemkhcaaGreat
set_option linter.all false
/-- All ways, as the search yields them. -/
def putL (holds : List Int → Bool) (cand : Nat → List Int) : Nat → List Int → List (List Int)
  | 0, hs => if holds hs = true then [hs] else []
  | k + 1, hs => if holds hs = true then (cand hs.length).flatMap fun h => putL holds cand k (hs ++ [h]) else []
theorem zDc {holds : List Int → Bool} {cand : Nat → List Int} (h1 : ∀ l x, holds (l ++ [x]) = true → holds l = true) : ∀ (k : Nat) (hs x : List Int), (∀ l y, holds (l ++ [y]) = true → l.length < hs.length + k → y ∈ cand l.length) →
    (x ∈ putL holds cand k hs ↔ ∃ t, x = hs ++ t ∧ t.length = k ∧ holds x = true)
  | 0, hs, x, _ => by
    unfold putL
    constructor
    · intro h
      split at h
      · rename_i hh
        rw [List.mem_singleton] at h
        subst h
        exact ⟨[], by simp, rfl, hh⟩
      · cases h
    · rintro ⟨t, rfl, ht, hh⟩
      obtain rfl : t = [] := by simpa using ht
      rw [List.append_nil] at hh ⊢
      rw [if_pos hh]; exact List.mem_singleton.2 rfl
  | k + 1, hs, x, h2 => by
    have hpre : ∀ (t l : List Int), holds (l ++ t) = true → holds l = true := fun t => by
      induction t with
      | nil => intro l h; rwa [List.append_nil] at h
      | cons a t ih =>
        intro l h
        exact h1 l a (ih (l ++ [a]) (by rwa [List.append_assoc]))
    unfold putL
    constructor
    · intro h
      split at h
      · obtain ⟨a, ha, hx⟩ := List.mem_flatMap.1 h
        obtain ⟨t, rfl, ht, hh⟩ := (zDc h1 k (hs ++ [a]) x fun l y hl hlt => h2 l y hl (by simp only [List.length_append, List.length_cons, List.length_nil] at hlt; omega)).1 hx
        exact ⟨a :: t, by rw [List.append_assoc]; rfl, by simp [ht], hh⟩
      · cases h
    · rintro ⟨t, rfl, ht, hh⟩
      rw [if_pos (hpre t hs hh)]
      cases t with
      | nil => cases ht
      | cons a t =>
        have he : hs ++ a :: t = (hs ++ [a]) ++ t := by rw [List.append_assoc]; rfl
        rw [List.mem_flatMap]
        refine ⟨a, h2 hs a (hpre t _ (by rw [← he]; exact hh)) (by omega), ?_⟩
        exact (zDc h1 k (hs ++ [a]) _ fun l y hl hlt => h2 l y hl (by simp only [List.length_append, List.length_cons, List.length_nil] at hlt; omega)).2 ⟨t, he, by simpa using ht, hh⟩
/-- Those that were not there yet are added. -/
def addNew (out : List (List Int)) (h : List Int) : List (List Int) := if (out.any fun x => x == h) = true then out else out ++ [h]
theorem addNew_mem {out : List (List Int)} {h x : List Int} : x ∈ addNew out h ↔ x ∈ out ∨ x = h := by
  unfold addNew
  split
  · rename_i hc
    rw [List.any_eq_true] at hc
    obtain ⟨y, hy, e⟩ := hc
    have := eq_of_beq e
    subst this
    constructor
    · exact .inl
    · rintro (h | rfl)
      · exact h
      · exact hy
  · simp
theorem kB {f : List Int → List Int} : ∀ (L : List (List Int)) (out : List (List Int)) (x : List Int), x ∈ L.foldl (fun o p => addNew o (f p)) out ↔ x ∈ out ∨ ∃ p ∈ L, x = f p
  | [], out, x => by simp
  | p :: L, out, x => by
    rw [List.foldl_cons, kB L, addNew_mem]
    simp only [List.mem_cons, exists_eq_or_imp, or_assoc]
theorem zAa {f : List Int → List Int} : ∀ (L : List (List Int)) (out : List (List Int)), out.Nodup → (L.foldl (fun o p => addNew o (f p)) out).Nodup
  | [], out, h => h
  | p :: L, out, h => by
    rw [List.foldl_cons]
    refine zAa L _ ?_
    unfold addNew
    split
    · exact h
    · rename_i hc
      rw [List.nodup_append]
      refine ⟨h, by simp, fun a ha b hb => ?_⟩
      rw [List.mem_singleton] at hb
      subst hb
      intro e
      subst e
      exact hc (List.any_eq_true.2 ⟨_, ha, beq_self_eq_true _⟩)
def Sorted8 (l : List (List Int)) : Prop := l.Pairwise fun a b => lexB a b = true
theorem lex_anti {a b : List Int} (h : lexB a b = true) : lexB b a = false := by
  cases hb : lexB b a with
  | false => rfl
  | true => have := zEq h hb; rw [zA4] at this; cases this
theorem zC6 : ∀ {a b : List (List Int)}, Sorted8 a → Sorted8 b → (∀ x, x ∈ a ↔ x ∈ b) → a = b
  | [], [], _, _, _ => rfl
  | [], y :: b, _, _, h => by have := (h y).2 List.mem_cons_self; cases this
  | x :: a, [], _, _, h => by have := (h x).1 List.mem_cons_self; cases this
  | x :: a, y :: b, ha, hb, h => by
    unfold Sorted8 at ha hb
    rw [List.pairwise_cons] at ha hb
    have hxy : x = y := by
      rcases List.mem_cons.1 ((h x).1 List.mem_cons_self) with e | e
      · exact e
      · rcases List.mem_cons.1 ((h y).2 List.mem_cons_self) with f | f
        · exact f.symm
        · have h1 := hb.1 x e; have h2 := ha.1 y f
          rw [lex_anti h1] at h2; cases h2
    subst hxy
    congr 1
    refine zC6 ha.2 hb.2 fun z => ⟨fun hz => ?_, fun hz => ?_⟩
    · rcases List.mem_cons.1 ((h z).1 (List.mem_cons_of_mem _ hz)) with e | e
      · have := ha.1 z hz; rw [e, zA4] at this; cases this
      · exact e
    · rcases List.mem_cons.1 ((h z).2 (List.mem_cons_of_mem _ hz)) with e | e
      · have := hb.1 z hz; rw [e, zA4] at this; cases this
      · exact e
/-- A number as digits in base 5. -/
def digs : Nat → Nat → List Int
  | 0, _ => []
  | N + 1, n => digs N (n / 5) ++ [((n % 5 : Nat) : Int)]
theorem zDg : ∀ (N n : Nat), (digs N n).length = N
  | 0, _ => rfl
  | N + 1, n => by simp [digs, zDg N]
theorem zDi : ∀ {a b x y : List Int}, lexB a b = true → lexB (a ++ x) (b ++ y) = true
  | [], _, _, _, h => by cases h
  | _ :: _, [], _, _, h => by cases h
  | p :: a, q :: b, x, y, h => by
    rw [List.cons_append, List.cons_append, yd]
    rw [yd] at h
    rcases h with h | ⟨e, h⟩
    · exact .inl h
    · exact .inr ⟨e, zDi h⟩
theorem zDw : ∀ (N : Nat) {a b : Nat}, a < b → b < 5 ^ N → lexB (digs N a) (digs N b) = true
  | 0, a, b, h, hb => by simp at hb; omega
  | N + 1, a, b, h, hb => by
    rw [Nat.pow_succ] at hb
    unfold digs
    by_cases e : a / 5 = b / 5
    · rw [e, zEi, yd]
      left
      omega
    · exact zDi (zDw N (by omega) (by omega))
theorem zDh : ∀ (N : Nat) (l : List Int), l.length = N → (∀ x ∈ l, 0 ≤ x ∧ x ≤ 4) → ∃ n, n < 5 ^ N ∧ digs N n = l
  | 0, l, h, _ => ⟨0, by simp, by rw [List.length_eq_zero_iff.1 h]; rfl⟩
  | N + 1, l, h, hl => by
    obtain ⟨m, x, rfl⟩ : ∃ m x, l = m ++ [x] := ⟨l.dropLast, l.getLast (by intro e; rw [e] at h; cases h), (List.dropLast_concat_getLast _).symm⟩
    have hx := hl x (by simp)
    obtain ⟨n, hn, e⟩ := zDh N m (by simpa using h) fun y hy => hl y (List.mem_append_left _ hy)
    refine ⟨n * 5 + x.toNat, by rw [Nat.pow_succ]; omega, ?_⟩
    unfold digs
    rw [show (n * 5 + x.toNat) / 5 = n by omega, show (n * 5 + x.toNat) % 5 = x.toNat by omega, e, show ((x.toNat : Nat) : Int) = x by omega]
/-- The reference's list. -/
def refHandsL (N : Nat) (is : List Int → Bool) : List (List Int) := ((List.range (5 ^ N)).map (digs N)).filter is
theorem refHands_sorted (N : Nat) (is : List Int → Bool) : Sorted8 (refHandsL N is) := by
  unfold Sorted8 refHandsL
  refine List.Pairwise.filter _ ?_
  rw [List.pairwise_map]
  refine List.pairwise_iff_getElem.2 fun i j hi hj hij => ?_
  simp only [List.length_range] at hi hj
  simp only [List.getElem_range]
  exact zDw N hij hj
theorem zA2 {N : Nat} {is : List Int → Bool} {l : List Int} (his : ∀ l, is l = true → l.length = N → ∀ x ∈ l, 0 ≤ x ∧ x ≤ 4) : l ∈ refHandsL N is ↔ l.length = N ∧ is l = true := by
  unfold refHandsL
  rw [List.mem_filter, List.mem_map]
  constructor
  · rintro ⟨⟨n, _, rfl⟩, h⟩; exact ⟨zDg _ _, h⟩
  · rintro ⟨h1, h2⟩
    obtain ⟨n, hn, e⟩ := zDh N l h1 (his l h2 h1)
    exact ⟨⟨n, List.mem_range.2 hn, e⟩, h2⟩
/-- Sorted hands with the same members are the reference's. -/
theorem hands_law {N : Nat} {is : List Int → Bool} {H : List (List Int)} (hs : Sorted8 H) (his : ∀ l, is l = true → l.length = N → ∀ x ∈ l, 0 ≤ x ∧ x ≤ 4) (hm : ∀ l, l ∈ H ↔ l.length = N ∧ is l = true) : H = refHandsL N is :=
  zC6 hs (refHands_sorted N is) fun l => by rw [hm, zA2 his]
end Go.Proofs.YtaokpncjemkhcaaGreat
namespace Go.Proofs.YtaokpncjemkhcaaGreat
set_option linter.all false
def buyR (lo : Int) (ns : List Int) : Int × Int := ns.foldl (fun p n => (min p.1 n, max p.2 n)) (lo, 0)
theorem zD7 : ∀ (ns : List Int) (a b : Int), (ns.foldl (fun p n => (min p.1 n, max p.2 n)) (a, b)).1 ≤ a ∧ b ≤ (ns.foldl (fun p n => (min p.1 n, max p.2 n)) (a, b)).2 ∧
    (∀ n ∈ ns, (ns.foldl (fun p n => (min p.1 n, max p.2 n)) (a, b)).1 ≤ n ∧ n ≤ (ns.foldl (fun p n => (min p.1 n, max p.2 n)) (a, b)).2) ∧
    ((ns.foldl (fun p n => (min p.1 n, max p.2 n)) (a, b)).1 = a ∨ (ns.foldl (fun p n => (min p.1 n, max p.2 n)) (a, b)).1 ∈ ns) ∧
    ((ns.foldl (fun p n => (min p.1 n, max p.2 n)) (a, b)).2 = b ∨ (ns.foldl (fun p n => (min p.1 n, max p.2 n)) (a, b)).2 ∈ ns)
  | [], a, b => ⟨Int.le_refl _, Int.le_refl _, fun _ h => (by cases h), .inl rfl, .inl rfl⟩
  | x :: ns, a, b => by
    obtain ⟨h1, h2, h3, h4, h5⟩ := zD7 ns (min a x) (max b x)
    rw [List.foldl_cons]
    refine ⟨by dsimp only at *; omega, by dsimp only at *; omega, fun n hn => ?_, ?_, ?_⟩
    · rcases List.mem_cons.1 hn with rfl | hn
      · dsimp only at *; omega
      · exact h3 n hn
    · rcases h4 with h4 | h4
      · by_cases ha : a ≤ x
        · left; dsimp only at *; omega
        · right; rw [List.mem_cons]; left; dsimp only at *; omega
      · exact .inr (List.mem_cons_of_mem _ h4)
    · rcases h5 with h5 | h5
      · by_cases ha : x ≤ b
        · left; dsimp only at *; omega
        · right; rw [List.mem_cons]; left; dsimp only at *; omega
      · exact .inr (List.mem_cons_of_mem _ h5)
/-- The least and the greatest of some numbers that are from 0 to hi. -/
theorem buy_ok {ns : List Int} {lo : Int} (hne : ns ≠ []) (hb : ∀ n ∈ ns, 0 ≤ n ∧ n ≤ lo) : (∀ n ∈ ns, (buyR lo ns).1 ≤ n ∧ n ≤ (buyR lo ns).2) ∧ (buyR lo ns).1 ∈ ns ∧ (buyR lo ns).2 ∈ ns := by
  obtain ⟨h1, h2, h3, h4, h5⟩ := zD7 ns lo 0
  obtain ⟨x, l, rfl⟩ : ∃ x l, ns = x :: l := by cases ns with | nil => exact (hne rfl).elim | cons x l => exact ⟨x, l, rfl⟩
  refine ⟨h3, ?_, ?_⟩
  · rcases h4 with h4 | h4
    · have := h3 x List.mem_cons_self
      have := hb x List.mem_cons_self
      have e : (buyR lo (x :: l)).1 = x := by unfold buyR; omega
      rw [e]; exact List.mem_cons_self
    · exact h4
  · rcases h5 with h5 | h5
    · have := h3 x List.mem_cons_self
      have := hb x List.mem_cons_self
      have e : (buyR lo (x :: l)).2 = x := by unfold buyR; omega
      rw [e]; exact List.mem_cons_self
    · exact h5
/-- The verdict on a due, from what is so with each hand. -/
def verdB (l : List Bool) : Int := if l.all id = true then 1 else if l.any id = true then 3 else 2
theorem zDt (l : List Bool) : verdB l = if l.any (fun x => !x) = false then 1 else if l.any id = false then 2 else 3 := by
  unfold verdB
  have h1 : (l.all id = true) ↔ (l.any (fun x => !x) = false) := by simp
  by_cases ha : l.all id = true
  · rw [if_pos ha, if_pos (h1.1 ha)]
  · rw [if_neg ha, if_neg (fun h => ha (h1.2 h))]
    cases l.any id <;> simp
theorem can_lends {N : Nat} {ls ls' : Nat → Bool} {hand : List Int} {qs : List Due8} {d : List Int} (h : ∀ i, i < N → ls i = ls' i) : canP N ls hand qs d = canP N ls' hand qs d := by
  rw [Bool.eq_iff_iff]
  exact ⟨zDn (fun _ _ => Int.le_refl _) (fun i hi e => by rw [← h i hi]; exact e) fun _ _ => rfl, zDn (fun _ _ => Int.le_refl _) (fun i hi e => by rw [h i hi]; exact e) fun _ _ => rfl⟩
end Go.Proofs.YtaokpncjemkhcaaGreat
namespace Go.Proofs.YtaokpncjemkhcaaGreat
open Go.RowKit
structure Ent5 where
  kind : Int
  sheet : Int
  frm : Int
  to : Int
  lo : Int
  hi : Int
structure Sight5 where
  sheet : Int
  house : Int
  day : Int
structure Reg where
  houses : Int
  start : List Int
  entries : List Ent5
  sights : List Sight5
@[reducible] def intE (n : Int) : List D := [.int .i64 n]
@[reducible] def entE (e : Ent5) : List D := [.int .i64 e.kind, .int .i64 e.sheet, .int .i64 e.frm, .int .i64 e.to, .int .i64 e.lo, .int .i64 e.hi]
@[reducible] def sightE (s : Sight5) : List D := [.int .i64 s.sheet, .int .i64 s.house, .int .i64 s.day]
@[reducible] def ints (l : List Int) : D := .slice 1 (l.map intE)
@[reducible] def entsD (l : List Ent5) : D := .slice 6 (l.map entE)
@[reducible] def sightsD (l : List Sight5) : D := .slice 3 (l.map sightE)
@[reducible] def regC (r : Reg) : List D := [.int .i64 r.houses, ints r.start, entsD r.entries, sightsD r.sights]
@[reducible] def regD (r : Reg) : D := .agg (regC r)
@[reducible] def doneE (n : Nat) : List D := [.int .u64 n]
@[reducible] def donesD (l : List Nat) : D := .slice 1 (l.map doneE)
def iw (n : Int) : Int := IntKind.i64.wrap n
theorem iw_of {n : Int} (h : -9223372036854775808 ≤ n ∧ n ≤ 9223372036854775807) : iw n = n := i64w h rfl
theorem mget {α β : Type} {l : List α} {f : α → β} {i : Nat} {x : α} (h : l[i]? = some x) : (l.map f)[i]? = some (f x) := by simp [h]
theorem yH {α : Type} {l : List α} {p : α → Bool} {i : Nat} {x : α} (h : l[i]? = some x) (ha : (l.take i).all p = true) (hx : p x = true) : (l.take (i + 1)).all p = true := by
  rw [List.take_add_one, h]
  simp [ha, hx]
theorem z8 {α : Type} {l : List α} {i : Nat} (h : i < l.length) : ∃ x, l[i]? = some x := ⟨_, List.getElem?_eq_getElem h⟩
theorem zBI {α β : Type} {l : List α} {f : α → β} {p : α → Bool} {i : Nat} (h : ((l.map f).length : Int) ≤ (i : Int)) (hi : i ≤ l.length) (ha : (l.take i).all p = true) : l.all p = true := by
  have e : i = l.length := by simp only [List.length_map] at h; omega
  subst e
  simpa using ha
/-- The index of the first element that is so, or -1. -/
def idxOf {α : Type} (p : α → Bool) (l : List α) : Int := match l.findIdx? p with
  | some i => (i : Int)
  | none => -1
theorem yv {α : Type} {p : α → Bool} {l : List α} {i : Nat} {x : α} (h : l[i]? = some x) (ha : (l.take i).all (fun x => !p x) = true) (hx : p x = true) : idxOf p l = i := by
  have : l.findIdx? p = some i := by
    rw [List.findIdx?_eq_some_iff_getElem]
    obtain ⟨hlt, rfl⟩ := List.getElem?_eq_some_iff.1 h
    refine ⟨hlt, hx, fun j hj => ?_⟩
    have := List.all_eq_true.1 ha l[j] (by rw [List.mem_take_iff_getElem]; exact ⟨j, by omega, rfl⟩)
    simpa using this
  simp [idxOf, this]
theorem yi {α : Type} {p : α → Bool} {l : List α} (ha : l.all (fun x => !p x) = true) : idxOf p l = -1 := by
  have : l.findIdx? p = none := by
    rw [List.findIdx?_eq_none_iff]
    intro x hx
    simpa using List.all_eq_true.1 ha x hx
  simp [idxOf, this]
theorem yc {α : Type} {p : α → Bool} {l : List α} : decide (0 ≤ idxOf p l) = l.any p := by
  unfold idxOf
  cases h : l.findIdx? p with
  | none =>
    rw [List.findIdx?_eq_none_iff] at h
    have : l.any p = false := by
      rw [List.any_eq_false]
      intro x hx
      simp [h x hx]
    simp [this]
  | some i =>
    have : l.any p = true := by
      rw [List.findIdx?_eq_some_iff_getElem] at h
      obtain ⟨hlt, hx, _⟩ := h
      exact List.any_eq_true.2 ⟨_, List.getElem_mem hlt, hx⟩
    simp [this]
end Go.Proofs.YtaokpncjemkhcaaGreat
