/-
  A part of the proof that contangolaw.ShortNames returns true: what the last text needs, and no more. No condition: no statement of the seat is proved here.
-/
import Derived.Carry
import Derived.ProofKit
import Derived.OpenShut
import Derived.Deep.Slices
import Derived.JoinedOf
import Derived.JoinedAt
import Derived.SizedLaws
import Derived.Test.YtaokpncjemkhcaaGreatShortNamesD
namespace Go.Proofs.YtaokpncjemkhcaaGreat
open Go.ChangeShapes Go.WideShapes Go.ChangeAt Go.RowKit
set_option linter.all false
/-- All cells that there are. -/
def live (w : World) (b o : Nat) : Prop := ∃ v, w.cell? ⟨b, o, none⟩ = some v
/-- Cells of a type are read as plain data of a form. -/
def Opens (P : Program) (t : TypeId) (S : List D → Prop) : Prop :=
  ∀ {H : Type} (enc : TypeId × Value → H) (w : World) (base : Nat) (spare : Nat → Bool) (held : Bool) (fuel : Nat) (cs : List Value) (x : DataW H × List MemPlace),
    DataW.trod enc P w base spare held fuel t cs = some x → (x.1.weights P t).all (· ≤ reachBytes) = true → ∃ ds, S ds ∧ RepVals (live w) w ds cs ∧ ∀ v ∈ cs, v.oneCell' = true
def FieldsOpen (P : Program) : Nat → List Field → List (List D → Prop) → Prop
  | _, [], [] => True
  | o, f :: fs, S :: Ss => f.offset = o ∧ Opens P f.type S ∧ FieldsOpen P (o + P.cellsOf f.type) fs Ss
  | _, _, _ => False
/-- A parameter of a type is read as plain data of a form. -/
def OpensP (P : Program) (t : TypeId) (S : D → Prop) : Prop :=
  ∀ {H : Type} (enc : TypeId × Value → H) (w : World) (r : Reach) (b0 base : Nat) (spare : Nat → Bool) (held : Bool) (v : Value) (d : DataW H) (p : List MemPlace),
    Value.okWide P w r b0 t v → DataW.Trod enc P w base spare held t v d p → (d.weights P t).all (· ≤ reachBytes) = true → ∃ x, S x ∧ Rep (live w) w x v
def Sat : List (D → Prop) → List D → Prop
  | [], ds => ds = []
  | S :: Ss, ds => ∃ d ds', ds = d :: ds' ∧ S d ∧ Sat Ss ds'
def OpensAll (P : Program) : List TypeId → List (D → Prop) → Prop
  | [], [] => True
  | t :: ts, S :: Ss => OpensP P t S ∧ OpensAll P ts Ss
  | _, _ => False
theorem zCk {H : Type} {enc : TypeId × Value → H} {P : Program} {w : World} {b0 base : Nat} {spare : Nat → Bool} {held : Bool} : ∀ {ts : List TypeId} {Ss : List (D → Prop)} {vs : List Value} {ds : List (DataW H)} {p : List MemPlace}, OpensAll P ts Ss → DataW.TrodAll enc P w base spare held ts vs ds p →
    (∀ (j : Nat) t v, ts[j]? = some t → vs[j]? = some v → Value.okWide P w .any b0 t v) → (DataW.weightsEach P ts ds).all (· ≤ reachBytes) = true → ∃ xs, Sat Ss xs ∧ RepVals (live w) w xs vs
  | [], [], _, _, _, _, h, _, _ => by
    obtain ⟨rfl, _, _⟩ := trodAll_nil h
    exact ⟨[], rfl, rfl⟩
  | [], _ :: _, _, _, _, h, _, _, _ => h.elim
  | _ :: _, [], _, _, _, h, _, _, _ => h.elim
  | t :: ts, S :: Ss, _, _, _, ⟨h1, h2⟩, h, hv, hz => by
    obtain ⟨v, vs, d, ds, p, q, rfl, rfl, rfl, k1, k2⟩ := trodAll_cons h
    simp only [DataW.weightsEach, List.all_append, Bool.and_eq_true] at hz
    obtain ⟨x, s1, s2⟩ := h1 enc w .any b0 base spare held v d p (hv 0 t v rfl rfl) k1 hz.1
    obtain ⟨xs, s3, s4⟩ := zCk (b0 := b0) h2 k2 (fun j t v hj hv' => hv (j + 1) t v (by simpa using hj) (by simpa using hv')) hz.2
    exact ⟨x :: xs, ⟨x, xs, rfl, s1, s3⟩, v, vs, rfl, s2, s4⟩
theorem zAj {H : Type} {enc : TypeId × Value → H} {P : Program} (hl : laidOutB P = true) {W W' : World} (hb : Below W.heap.size W W') : ∀ {ts : List TypeId} {vs : List Value} {ds : List (DataW H)} {p : List MemPlace}, (ts.all fun t => P.readableRec t && decide (t < P.types.size)) = true → (∀ x ∈ p, x.block < W.heap.size) →
    DataW.TrodAll enc P W 0 (fun _ => true) true ts vs ds p → DataW.TrodAll enc P W' 0 (fun b => decide (b < W.heap.size)) true ts vs ds p
  | [], _, _, _, _, _, h => by
    obtain ⟨rfl, rfl, rfl⟩ := trodAll_nil h
    exact trodAll_mk0
  | t :: ts, _, _, _, ht, hp, h => by
    obtain ⟨v, vs, d, ds, p, q, rfl, rfl, rfl, k1, k2⟩ := trodAll_cons h
    simp only [List.all_cons, Bool.and_eq_true, decide_eq_true_eq] at ht
    exact ⟨p, q, Below.trod hl ht.1.1 ht.1.2 k1 hb fun x hx => hp x (List.mem_append_left _ hx), zAj hl hb (by simpa using ht.2) (fun x hx => hp x (List.mem_append_right _ hx)) k2, rfl⟩
theorem zBt {H : Type} {enc : TypeId × Value → H} {P : Program} {w : World} {base : Nat} {spare : Nat → Bool} {held : Bool} : ∀ {ts : List TypeId} {vs : List Value} {ds : List (DataW H)} {p : List MemPlace}, DataW.TrodAll enc P w base spare held ts vs ds p → ds.length = ts.length
  | [], _, _, _, h => by
    obtain ⟨_, rfl, _⟩ := trodAll_nil h
    rfl
  | t :: ts, _, _, _, h => by
    obtain ⟨v, vs, d, ds, p, q, rfl, rfl, rfl, k1, k2⟩ := trodAll_cons h
    simp [zBt k2]
/-- What a law's row asks of one call, out of a contract. -/
theorem law_contract {H : Type} {enc : TypeId × Value → H} {P : Program} {f : FuncId} {fn : Func} {s : ChangeSpec} {apart : Bool} {tb : TypeId} {ts : List TypeId} {Ss : List (D → Prop)} (hl : laidOutB P = true) (hts : fn.params.toList = ts) (hrr : (ts.all fun t => P.readableRec t && decide (t < P.types.size)) = true)
    (hres : fn.resultTypes = #[tb]) (htb : P.underlying tb = some .bool) (hvars : s.vars = []) (hvt : s.plain.varTypes P = [])
    (hs : ∀ ds : List (DataW H), ds.length = ts.length → s.fn H ds = { results := [.lit (.bool true)], args := ds })
    (ho : OpensAll P ts Ss) (hp : ∀ xs, Sat Ss xs → PureAt P f xs (.bool true)) :
    ∀ (W : World) (base : Nat) (args : Array Value) (ds gs : List (DataW H)) (before : List MemPlace),
      (∀ (j : Nat) t v, fn.params[j]? = some t → args[j]? = some v → Value.okWide P W .any base t v) →
      DataW.Whole enc P fn.params.toList s.vars apart W args.toList ds gs before →
      (DataW.weightsEach P (fn.params.toList ++ s.plain.varTypes P) (ds ++ gs)).all (· ≤ reachBytes) = true → GOK W (fun _ => False) →
      Calls P f args W fun e W' => ∃ v, e = .returned v ∧ s.post enc P fn apart true false false W args v W' := by
  intro W base args ds gs before hval hW hz hG
  have hW' := hW
  have hlt := hW.lt
  obtain ⟨p, q, hA0, hV, rfl, _, _⟩ := hW
  rw [hvars] at hV
  obtain ⟨rfl, rfl⟩ := trodVars_none hV
  rw [List.append_nil] at hlt
  have hA : DataW.TrodAll enc P W 0 (fun _ => true) true fn.params.toList args.toList ds p := hA0
  rw [hts] at hA
  rw [hvt, List.append_nil, List.append_nil, hts] at hz
  obtain ⟨xs, h1, h2⟩ := zCk (b0 := base) ho hA (fun j t v hj hv => hval j t v (by rw [← hts] at hj; simpa using hj) (by simpa using hv)) hz
  have hlen : ds.length = ts.length := zBt hA
  refine ((hp xs h1).2 W (live W) args.toList (fun b o h => h) hG h2).mono fun e W' he => ?_
  obtain ⟨v, F', rfl, hb, hr, _⟩ := he
  obtain rfl : v = .bool true := hr
  refine ⟨_, rfl, ds, [], _, [], p, [], hW', ?_, ?_, ?_, hb.frame _, fun h => by cases h⟩
  · rw [List.append_nil, hs ds hlen, hres]
    exact trodAll_cons_mk (shut_bool htb _) trodAll_mk0
  · rw [List.append_nil, hs ds hlen, hts]
    exact zAj hl hb hrr hlt hA
  · rw [List.append_nil, hs ds hlen, hvars]
    rfl
end Go.Proofs.YtaokpncjemkhcaaGreat
namespace Go.Proofs.YtaokpncjemkhcaaGreat
set_option linter.all false
structure Due8 where
  frm : Int
  to : Int
  num : Int
def sumI : List Int → Int
  | [] => 0
  | x :: xs => x + sumI xs
theorem kB : ∀ (l m : List Int), sumI (l ++ m) = sumI l + sumI m
  | [], m => by simp [sumI]
  | x :: l, m => by simp only [List.cons_append, sumI, kB l m]; omega
def owedI : List Due8 → Int
  | [] => 0
  | q :: qs => q.num + owedI qs
theorem zA6 : ∀ (l m : List Due8), owedI (l ++ m) = owedI l + owedI m
  | [], m => by simp [owedI]
  | x :: l, m => by simp only [List.cons_append, owedI, zA6 l m]; omega
def listedB : List Due8 → List Int → Bool
  | [], [] => true
  | q :: qs, x :: xs => (decide (0 ≤ x) && decide (x ≤ q.num)) && listedB qs xs
  | _, _ => false
theorem zCD : ∀ {qs : List Due8} {d : List Int}, listedB qs d = true → d.length = qs.length
  | [], [], _ => rfl
  | [], _ :: _, h => by simp [listedB] at h
  | _ :: _, [], h => by simp [listedB] at h
  | q :: qs, x :: xs, h => by
    simp only [listedB, Bool.and_eq_true] at h
    simp [zCD h.2]
theorem zB2 : ∀ {qs : List Due8} {d : List Int}, listedB qs d = true → 0 ≤ sumI d ∧ sumI d ≤ owedI qs
  | [], [], _ => by simp [sumI, owedI]
  | [], _ :: _, h => by simp [listedB] at h
  | _ :: _, [], h => by simp [listedB] at h
  | q :: qs, x :: xs, h => by
    simp only [listedB, Bool.and_eq_true, decide_eq_true_eq] at h
    have := zB2 h.2
    simp only [sumI, owedI]; omega
def searchD (can : List Int → Bool) (w : Int) : Nat → List Due8 → List Int → Int → Option (List Int)
  | _, [], pre, b => if (b == 0 && can pre) = true then some pre else none
  | i, q :: qs, pre, b => (List.range ((if (i : Int) = w then 0 else min b q.num).toNat + 1)).findSome? fun (n : Nat) => searchD can w (i + 1) qs (pre ++ [q.num - (n : Int)]) (b - (n : Int))
end Go.Proofs.YtaokpncjemkhcaaGreat
namespace Go.Proofs.YtaokpncjemkhcaaGreat
set_option linter.all false
def bestD (can : List Int → Bool) (w : Int) (qs : List Due8) : Option (List Int × Int) :=
  (List.range ((owedI qs).toNat + 1)).findSome? fun (n : Nat) => (searchD can w 0 qs [] (n : Int)).map fun d => (d, (n : Int))
def fullD (qs : List Due8) : List Int := qs.map (·.num)
end Go.Proofs.YtaokpncjemkhcaaGreat
namespace Go.Proofs.YtaokpncjemkhcaaGreat
set_option linter.all false
def sumN (f : Nat → Int) : Nat → Int
  | 0 => 0
  | n + 1 => sumN f n + f n
/-- What comes and goes at a house. -/
def netH : List Due8 → List Int → Int → Int
  | q :: qs, x :: xs, h => ((if q.to = h then x else 0) - (if q.frm = h then x else 0)) + netH qs xs h
  | _, _, _ => 0
theorem zBm : ∀ (A : List Due8) (a : List Int) (B : List Due8) (b : List Int) (h : Int), a.length = A.length → netH (A ++ B) (a ++ b) h = netH A a h + netH B b h
  | [], [], B, b, h, _ => by simp [netH]
  | [], _ :: _, _, _, _, e => by cases e
  | _ :: _, [], _, _, _, e => by cases e
  | q :: A, x :: a, B, b, h, e => by
    simp only [List.cons_append, netH, zBm A a B b h (by simpa using e)]; omega
def leftH (hand : List Int) (qs : List Due8) (d : List Int) (h : Nat) : Int := hand.getD h 0 + netH qs d (h : Int)
def lackP (N : Nat) (left : Nat → Int) : Int := sumN (fun h => max 0 (-(left h))) N
def lentP (N : Nat) (ls : Nat → Bool) (had left : Nat → Int) : Int := sumN (fun h => if ls h = true then max 0 (min (left h) (had h)) else 0) N
def canP (N : Nat) (ls : Nat → Bool) (hand : List Int) (qs : List Due8) (d : List Int) : Bool :=
  decide (lackP N (leftH hand qs d) ≤ lentP N ls (fun h => hand.getD h 0) (leftH hand qs d))
theorem zAi : ∀ {A : List Due8} {a : List Int} {B : List Due8} {b : List Int}, a.length = A.length → listedB (A ++ B) (a ++ b) = (listedB A a && listedB B b)
  | [], [], _, _, _ => by simp [listedB]
  | [], _ :: _, _, _, e => by cases e
  | _ :: _, [], _, _, e => by cases e
  | q :: A, x :: a, B, b, e => by simp only [List.cons_append, listedB, zAi (A := A) (a := a) (B := B) (b := b) (by simpa using e), Bool.and_assoc]
end Go.Proofs.YtaokpncjemkhcaaGreat
namespace Go.Proofs.YtaokpncjemkhcaaGreat
set_option linter.all false
set_option maxHeartbeats 4000000
def lexB : List Int → List Int → Bool
  | x :: a, y :: b => bif x != y then decide (x < y) else lexB a b
  | _, _ => false
theorem zBN : ∀ {a : List Int}, lexB a a = false
  | [] => rfl
  | x :: a => by show (bif x != x then decide (x < x) else lexB a a) = false; rw [show (x != x) = false by simp]; exact zBN
theorem yh {x y : Int} {a b : List Int} : lexB (x :: a) (y :: b) = true ↔ x < y ∨ x = y ∧ lexB a b = true := by
  show (bif x != y then decide (x < y) else lexB a b) = true ↔ _
  by_cases e : x = y
  · subst e; rw [show (x != x) = false by simp]; simp
  · rw [show (x != y) = true by simpa using e]; simp [e]
theorem zD6 : ∀ {l a b : List Int}, lexB (l ++ a) (l ++ b) = lexB a b
  | [], _, _ => rfl
  | x :: l, a, b => by
    show (bif x != x then decide (x < x) else lexB (l ++ a) (l ++ b)) = _
    rw [show (x != x) = false by simp]; exact zD6
theorem zEc : ∀ {a b c : List Int}, lexB a b = true → lexB b c = true → lexB a c = true
  | x :: a, y :: b, z :: c, h1, h2 => by
    rw [yh] at h1 h2 ⊢
    rcases h1 with h1 | ⟨rfl, h1⟩
    · rcases h2 with h2 | ⟨rfl, h2⟩
      · left; omega
      · left; exact h1
    · rcases h2 with h2 | ⟨rfl, h2⟩
      · left; exact h2
      · right; exact ⟨rfl, zEc h1 h2⟩
  | [], _, _, h1, _ => by cases h1
  | _ :: _, [], _, h1, _ => by cases h1
  | _ :: _, _ :: _, [], _, h2 => by cases h2
theorem zET : ∀ {a b : List Int}, a.length = b.length → lexB a b = false → lexB b a = false → a = b
  | [], [], _, _, _ => rfl
  | x :: a, y :: b, hl, h1, h2 => by
    have n1 : ¬ (x < y ∨ x = y ∧ lexB a b = true) := fun h => by rw [yh.2 h] at h1; cases h1
    have n2 : ¬ (y < x ∨ y = x ∧ lexB b a = true) := fun h => by rw [yh.2 h] at h2; cases h2
    obtain rfl : x = y := by omega
    rw [zET (a := a) (b := b) (by simpa using hl) (by cases h : lexB a b; rfl; exact (n1 (.inr ⟨rfl, h⟩)).elim) (by cases h : lexB b a; rfl; exact (n2 (.inr ⟨rfl, h⟩)).elim)]
  | [], _ :: _, h, _, _ => by cases h
  | _ :: _, [], h, _, _ => by cases h
/-- The search. -/
def enoughS (P : List Int → Bool) (lends : Nat → Bool) (N : Nat) : Nat → List Int → Nat → Option (List Int)
  | 0, l, _ => if P l = true then some l else none
  | k + 1, l, i => (List.range' i (N - i)).findSome? fun (h : Nat) => if lends h = true then none else enoughS P lends N k (l ++ [(h : Int)]) (h + 1)
def enoughR (P : List Int → Bool) (lends : Nat → Bool) (N : Nat) : Option (List Int) := (List.range (N + 1)).findSome? fun (k : Nat) => enoughS P lends N k [] 0
end Go.Proofs.YtaokpncjemkhcaaGreat
namespace Go.Proofs.YtaokpncjemkhcaaGreat
set_option linter.all false
/-- All ways, as the search yields them. -/
def putL (holds : List Int → Bool) (cand : Nat → List Int) : Nat → List Int → List (List Int)
  | 0, hs => if holds hs = true then [hs] else []
  | k + 1, hs => if holds hs = true then (cand hs.length).flatMap fun h => putL holds cand k (hs ++ [h]) else []
theorem zDM {holds : List Int → Bool} {cand : Nat → List Int} (h1 : ∀ l x, holds (l ++ [x]) = true → holds l = true) : ∀ (k : Nat) (hs x : List Int), (∀ l y, holds (l ++ [y]) = true → l.length < hs.length + k → y ∈ cand l.length) →
    (x ∈ putL holds cand k hs ↔ ∃ t, x = hs ++ t ∧ t.length = k ∧ holds x = true)
  | 0, hs, x, _ => by
    unfold putL
    constructor
    · intro h
      split at h
      · rename_i hh
        rw [List.mem_singleton] at h
        subst h
        exact ⟨[], by simp, rfl, hh⟩
      · cases h
    · rintro ⟨t, rfl, ht, hh⟩
      obtain rfl : t = [] := by simpa using ht
      rw [List.append_nil] at hh ⊢
      rw [if_pos hh]; exact List.mem_singleton.2 rfl
  | k + 1, hs, x, h2 => by
    have hpre : ∀ (t l : List Int), holds (l ++ t) = true → holds l = true := fun t => by
      induction t with
      | nil => intro l h; rwa [List.append_nil] at h
      | cons a t ih =>
        intro l h
        exact h1 l a (ih (l ++ [a]) (by rwa [List.append_assoc]))
    unfold putL
    constructor
    · intro h
      split at h
      · obtain ⟨a, ha, hx⟩ := List.mem_flatMap.1 h
        obtain ⟨t, rfl, ht, hh⟩ := (zDM h1 k (hs ++ [a]) x fun l y hl hlt => h2 l y hl (by simp only [List.length_append, List.length_cons, List.length_nil] at hlt; omega)).1 hx
        exact ⟨a :: t, by rw [List.append_assoc]; rfl, by simp [ht], hh⟩
      · cases h
    · rintro ⟨t, rfl, ht, hh⟩
      rw [if_pos (hpre t hs hh)]
      cases t with
      | nil => cases ht
      | cons a t =>
        have he : hs ++ a :: t = (hs ++ [a]) ++ t := by rw [List.append_assoc]; rfl
        rw [List.mem_flatMap]
        refine ⟨a, h2 hs a (hpre t _ (by rw [← he]; exact hh)) (by omega), ?_⟩
        exact (zDM h1 k (hs ++ [a]) _ fun l y hl hlt => h2 l y hl (by simp only [List.length_append, List.length_cons, List.length_nil] at hlt; omega)).2 ⟨t, he, by simpa using ht, hh⟩
/-- Those that were not there yet are added. -/
def addNew (out : List (List Int)) (h : List Int) : List (List Int) := if (out.any fun x => x == h) = true then out else out ++ [h]
theorem addNew_mem {out : List (List Int)} {h x : List Int} : x ∈ addNew out h ↔ x ∈ out ∨ x = h := by
  unfold addNew
  split
  · rename_i hc
    rw [List.any_eq_true] at hc
    obtain ⟨y, hy, e⟩ := hc
    have := eq_of_beq e
    subst this
    constructor
    · exact .inl
    · rintro (h | rfl)
      · exact h
      · exact hy
  · simp
theorem k8 {f : List Int → List Int} : ∀ (L : List (List Int)) (out : List (List Int)) (x : List Int), x ∈ L.foldl (fun o p => addNew o (f p)) out ↔ x ∈ out ∨ ∃ p ∈ L, x = f p
  | [], out, x => by simp
  | p :: L, out, x => by
    rw [List.foldl_cons, k8 L, addNew_mem]
    simp only [List.mem_cons, exists_eq_or_imp, or_assoc]
theorem zAW {f : List Int → List Int} : ∀ (L : List (List Int)) (out : List (List Int)), out.Nodup → (L.foldl (fun o p => addNew o (f p)) out).Nodup
  | [], out, h => h
  | p :: L, out, h => by
    rw [List.foldl_cons]
    refine zAW L _ ?_
    unfold addNew
    split
    · exact h
    · rename_i hc
      rw [List.nodup_append]
      refine ⟨h, by simp, fun a ha b hb => ?_⟩
      rw [List.mem_singleton] at hb
      subst hb
      intro e
      subst e
      exact hc (List.any_eq_true.2 ⟨_, ha, beq_self_eq_true _⟩)
def Sorted8 (l : List (List Int)) : Prop := l.Pairwise fun a b => lexB a b = true
theorem lex_anti {a b : List Int} (h : lexB a b = true) : lexB b a = false := by
  cases hb : lexB b a with
  | false => rfl
  | true => have := zEc h hb; rw [zBN] at this; cases this
theorem zCp : ∀ {a b : List (List Int)}, Sorted8 a → Sorted8 b → (∀ x, x ∈ a ↔ x ∈ b) → a = b
  | [], [], _, _, _ => rfl
  | [], y :: b, _, _, h => by have := (h y).2 List.mem_cons_self; cases this
  | x :: a, [], _, _, h => by have := (h x).1 List.mem_cons_self; cases this
  | x :: a, y :: b, ha, hb, h => by
    unfold Sorted8 at ha hb
    rw [List.pairwise_cons] at ha hb
    have hxy : x = y := by
      rcases List.mem_cons.1 ((h x).1 List.mem_cons_self) with e | e
      · exact e
      · rcases List.mem_cons.1 ((h y).2 List.mem_cons_self) with f | f
        · exact f.symm
        · have h1 := hb.1 x e; have h2 := ha.1 y f
          rw [lex_anti h1] at h2; cases h2
    subst hxy
    congr 1
    refine zCp ha.2 hb.2 fun z => ⟨fun hz => ?_, fun hz => ?_⟩
    · rcases List.mem_cons.1 ((h z).1 (List.mem_cons_of_mem _ hz)) with e | e
      · have := ha.1 z hz; rw [e, zBN] at this; cases this
      · exact e
    · rcases List.mem_cons.1 ((h z).2 (List.mem_cons_of_mem _ hz)) with e | e
      · have := hb.1 z hz; rw [e, zBN] at this; cases this
      · exact e
/-- A number as digits in base 5. -/
def digs : Nat → Nat → List Int
  | 0, _ => []
  | N + 1, n => digs N (n / 5) ++ [((n % 5 : Nat) : Int)]
theorem zDQ : ∀ (N n : Nat), (digs N n).length = N
  | 0, _ => rfl
  | N + 1, n => by simp [digs, zDQ N]
theorem zDl : ∀ {a b x y : List Int}, lexB a b = true → lexB (a ++ x) (b ++ y) = true
  | [], _, _, _, h => by cases h
  | _ :: _, [], _, _, h => by cases h
  | p :: a, q :: b, x, y, h => by
    rw [List.cons_append, List.cons_append, yh]
    rw [yh] at h
    rcases h with h | ⟨e, h⟩
    · exact .inl h
    · exact .inr ⟨e, zDl h⟩
theorem zDh : ∀ (N : Nat) {a b : Nat}, a < b → b < 5 ^ N → lexB (digs N a) (digs N b) = true
  | 0, a, b, h, hb => by simp at hb; omega
  | N + 1, a, b, h, hb => by
    rw [Nat.pow_succ] at hb
    unfold digs
    by_cases e : a / 5 = b / 5
    · rw [e, zD6, yh]
      left
      omega
    · exact zDl (zDh N (by omega) (by omega))
theorem zDp : ∀ (N : Nat) (l : List Int), l.length = N → (∀ x ∈ l, 0 ≤ x ∧ x ≤ 4) → ∃ n, n < 5 ^ N ∧ digs N n = l
  | 0, l, h, _ => ⟨0, by simp, by rw [List.length_eq_zero_iff.1 h]; rfl⟩
  | N + 1, l, h, hl => by
    obtain ⟨m, x, rfl⟩ : ∃ m x, l = m ++ [x] := ⟨l.dropLast, l.getLast (by intro e; rw [e] at h; cases h), (List.dropLast_concat_getLast _).symm⟩
    have hx := hl x (by simp)
    obtain ⟨n, hn, e⟩ := zDp N m (by simpa using h) fun y hy => hl y (List.mem_append_left _ hy)
    refine ⟨n * 5 + x.toNat, by rw [Nat.pow_succ]; omega, ?_⟩
    unfold digs
    rw [show (n * 5 + x.toNat) / 5 = n by omega, show (n * 5 + x.toNat) % 5 = x.toNat by omega, e, show ((x.toNat : Nat) : Int) = x by omega]
/-- The reference's list. -/
def refHandsL (N : Nat) (is : List Int → Bool) : List (List Int) := ((List.range (5 ^ N)).map (digs N)).filter is
theorem refHands_sorted (N : Nat) (is : List Int → Bool) : Sorted8 (refHandsL N is) := by
  unfold Sorted8 refHandsL
  refine List.Pairwise.filter _ ?_
  rw [List.pairwise_map]
  refine List.pairwise_iff_getElem.2 fun i j hi hj hij => ?_
  simp only [List.length_range] at hi hj
  simp only [List.getElem_range]
  exact zDh N hij hj
theorem zA3 {N : Nat} {is : List Int → Bool} {l : List Int} (his : ∀ l, is l = true → l.length = N → ∀ x ∈ l, 0 ≤ x ∧ x ≤ 4) : l ∈ refHandsL N is ↔ l.length = N ∧ is l = true := by
  unfold refHandsL
  rw [List.mem_filter, List.mem_map]
  constructor
  · rintro ⟨⟨n, _, rfl⟩, h⟩; exact ⟨zDQ _ _, h⟩
  · rintro ⟨h1, h2⟩
    obtain ⟨n, hn, e⟩ := zDp N l h1 (his l h2 h1)
    exact ⟨⟨n, List.mem_range.2 hn, e⟩, h2⟩
/-- Sorted hands with the same members are the reference's. -/
theorem hands_law {N : Nat} {is : List Int → Bool} {H : List (List Int)} (hs : Sorted8 H) (his : ∀ l, is l = true → l.length = N → ∀ x ∈ l, 0 ≤ x ∧ x ≤ 4) (hm : ∀ l, l ∈ H ↔ l.length = N ∧ is l = true) : H = refHandsL N is :=
  zCp hs (refHands_sorted N is) fun l => by rw [hm, zA3 his]
end Go.Proofs.YtaokpncjemkhcaaGreat
namespace Go.Proofs.YtaokpncjemkhcaaGreat
set_option linter.all false
def buyR (lo : Int) (ns : List Int) : Int × Int := ns.foldl (fun p n => (min p.1 n, max p.2 n)) (lo, 0)
/-- The verdict on a due, from what is so with each hand. -/
def verdB (l : List Bool) : Int := if l.all id = true then 1 else if l.any id = true then 3 else 2
def setAll (lends : List Bool) (more : List Int) : List Bool := more.foldl (fun l h => l.set h.toNat true) lends
theorem zAB : ∀ (more : List Int) (lends : List Bool), (setAll lends more).length = lends.length
  | [], _ => rfl
  | x :: more, lends => by
    have := zAB more (lends.set x.toNat true)
    unfold setAll at this ⊢
    rw [List.foldl_cons, this]; simp
def wholeP (N : Nat) (lends : List Bool) (hands : List (List Int)) (qs : List Due8) (more : List Int) : Bool := hands.all fun h => canP N (fun i => (setAll lends more).getD i false) h qs (fullD qs)
end Go.Proofs.YtaokpncjemkhcaaGreat
namespace Go.Proofs.YtaokpncjemkhcaaGreat
open Go.RowKit
structure Ent5 where
  kind : Int
  sheet : Int
  frm : Int
  to : Int
  lo : Int
  hi : Int
structure Sight5 where
  sheet : Int
  house : Int
  day : Int
structure Reg where
  houses : Int
  start : List Int
  entries : List Ent5
  sights : List Sight5
@[reducible] def intE (n : Int) : List D := [.int .i64 n]
@[reducible] def entE (e : Ent5) : List D := [.int .i64 e.kind, .int .i64 e.sheet, .int .i64 e.frm, .int .i64 e.to, .int .i64 e.lo, .int .i64 e.hi]
@[reducible] def sightE (s : Sight5) : List D := [.int .i64 s.sheet, .int .i64 s.house, .int .i64 s.day]
@[reducible] def ints (l : List Int) : D := .slice 1 (l.map intE)
@[reducible] def entsD (l : List Ent5) : D := .slice 6 (l.map entE)
@[reducible] def sightsD (l : List Sight5) : D := .slice 3 (l.map sightE)
@[reducible] def regC (r : Reg) : List D := [.int .i64 r.houses, ints r.start, entsD r.entries, sightsD r.sights]
@[reducible] def regD (r : Reg) : D := .agg (regC r)
@[reducible] def doneE (n : Nat) : List D := [.int .u64 n]
@[reducible] def donesD (l : List Nat) : D := .slice 1 (l.map doneE)
def iw (n : Int) : Int := IntKind.i64.wrap n
theorem iw_of {n : Int} (h : -9223372036854775808 ≤ n ∧ n ≤ 9223372036854775807) : iw n = n := i64w h rfl
theorem mget {α β : Type} {l : List α} {f : α → β} {i : Nat} {x : α} (h : l[i]? = some x) : (l.map f)[i]? = some (f x) := by simp [h]
theorem yN {α : Type} {l : List α} {p : α → Bool} {i : Nat} {x : α} (h : l[i]? = some x) (ha : (l.take i).all p = true) (hx : p x = true) : (l.take (i + 1)).all p = true := by
  rw [List.take_add_one, h]
  simp [ha, hx]
theorem z2 {α : Type} {l : List α} {i : Nat} (h : i < l.length) : ∃ x, l[i]? = some x := ⟨_, List.getElem?_eq_getElem h⟩
theorem full_all {α β : Type} {l : List α} {f : α → β} {p : α → Bool} {i : Nat} (h : ((l.map f).length : Int) ≤ (i : Int)) (hi : i ≤ l.length) (ha : (l.take i).all p = true) : l.all p = true := by
  have e : i = l.length := by simp only [List.length_map] at h; omega
  subst e
  simpa using ha
/-- The index of the first element that is so, or -1. -/
def idxOf {α : Type} (p : α → Bool) (l : List α) : Int := match l.findIdx? p with
  | some i => (i : Int)
  | none => -1
theorem yu {α : Type} {p : α → Bool} {l : List α} {i : Nat} {x : α} (h : l[i]? = some x) (ha : (l.take i).all (fun x => !p x) = true) (hx : p x = true) : idxOf p l = i := by
  have : l.findIdx? p = some i := by
    rw [List.findIdx?_eq_some_iff_getElem]
    obtain ⟨hlt, rfl⟩ := List.getElem?_eq_some_iff.1 h
    refine ⟨hlt, hx, fun j hj => ?_⟩
    have := List.all_eq_true.1 ha l[j] (by rw [List.mem_take_iff_getElem]; exact ⟨j, by omega, rfl⟩)
    simpa using this
  simp [idxOf, this]
theorem ye {α : Type} {p : α → Bool} {l : List α} (ha : l.all (fun x => !p x) = true) : idxOf p l = -1 := by
  have : l.findIdx? p = none := by
    rw [List.findIdx?_eq_none_iff]
    intro x hx
    simpa using List.all_eq_true.1 ha x hx
  simp [idxOf, this]
theorem yU {α : Type} {p : α → Bool} {l : List α} : decide (0 ≤ idxOf p l) = l.any p := by
  unfold idxOf
  cases h : l.findIdx? p with
  | none =>
    rw [List.findIdx?_eq_none_iff] at h
    have : l.any p = false := by
      rw [List.any_eq_false]
      intro x hx
      simp [h x hx]
    simp [this]
  | some i =>
    have : l.any p = true := by
      rw [List.findIdx?_eq_some_iff_getElem] at h
      obtain ⟨hlt, hx, _⟩ := h
      exact List.any_eq_true.2 ⟨_, List.getElem_mem hlt, hx⟩
    simp [this]
end Go.Proofs.YtaokpncjemkhcaaGreat
