/-
  Still more rules. No condition: no statement of the seat is proved here.
-/
import Derived.Test.YtnbmmopjkkofoaaBase2
namespace Go.Proofs.Ytnbmmopjkkofoaa
open Go.RowKit
set_option linter.all false

/-! ### Slices of data slices -/
section
variable {Γ : Cx} {P : Program} {σ : St} {o : Oper} {R : Rel}
theorem map_add0 (ad : Option Addr) : ad.map (fun a => a.add 0) = ad := by cases ad <;> rfl
theorem q_sliceH {x y : Operand} {t e : TypeId} {sz : Nat} {es es' : List (List D)} {k : IntKind} {m : Int} {j : Nat} (h : o.op = .slice t x none (some y) none) (hx : σ.ev x = some (true, .d (.slice sz es))) (hy : σ.ev y = some (true, .d (.int k m)))
    (ht : P.underlying t = some (.slice e)) (hz : Sz P e sz) (hm : m = (j : Int)) (hj : j ≤ es.length) (he' : es.take j = es') : QV Γ P σ o R (.d (.slice sz es')) := fun a w F hs => by
  obtain ⟨ad, cap, e1, hle, hcap, hrow⟩ := hs.ev hx
  have h2 := hs.ev hy
  simp only [TRep, Rep] at h2
  subst hm
  subst he'
  have hj2 : j ≤ cap := by omega
  refine ⟨.slice ad j cap, ⟨ad, cap, by rw [List.length_take, Nat.min_eq_left hj], by rw [List.length_take, Nat.min_eq_left hj]; omega, hcap, ?_⟩, fun w' _ => ?_⟩
  · rcases hrow with rfl | ⟨b, o, h1, h3⟩
    · exact .inl (by simp)
    · exact .inr ⟨b, o, h1, h3.take j⟩
  · simp [execOp, h, e1, h2, Instr.sliceAt, Instr.slice, run_underlying ht, Instr.sliceBounds, Instr.sliceBound, asIntOf, run_sz hz, hj2, map_add0]
theorem q_sliceL {x y : Operand} {t e : TypeId} {sz : Nat} {es es' : List (List D)} {k : IntKind} {m : Int} {j : Nat} (h : o.op = .slice t x (some y) none none) (hx : σ.ev x = some (true, .d (.slice sz es))) (hy : σ.ev y = some (true, .d (.int k m)))
    (ht : P.underlying t = some (.slice e)) (hz : Sz P e sz) (hm : m = (j : Int)) (hj : j ≤ es.length) (he' : es.drop j = es') : QV Γ P σ o R (.d (.slice sz es')) := fun a w F hs => by
  obtain ⟨ad, cap, e1, hle, hcap, hrow⟩ := hs.ev hx
  have h2 := hs.ev hy
  simp only [TRep, Rep] at h2
  subst hm
  subst he'
  refine ⟨.slice (if cap = j then ad else ad.map (·.add (j * sz))) (es.length - j) (cap - j), ⟨_, cap - j, by rw [List.length_drop], by rw [List.length_drop]; omega, by omega, ?_⟩, fun w' _ => ?_⟩
  · rcases hrow with rfl | ⟨b, o, h1, h3⟩
    · exact .inl (by simp)
    · by_cases hc : cap = j
      · exact .inl (by rw [List.drop_of_length_le (by omega)])
      · refine .inr ⟨b, o + j * sz, by rw [if_neg hc, h1]; simp [Addr.add], h3.drop j⟩
  · simp [execOp, h, e1, h2, Instr.sliceAt, Instr.slice, run_underlying ht, Instr.sliceBounds, Instr.sliceBound, asIntOf, run_sz hz, hj]
end

/-! ### Bools compared -/
section
variable {Γ : Cx} {P : Program} {σ : St} {o : Oper} {R : Rel}
theorem q_neqB {x y : Operand} {t t' : TypeId} {a b : Bool} (h : o.op = .binOp .neq t x y t') (hx : σ.ev x = some (true, .d (.bool a))) (hy : σ.ev y = some (true, .d (.bool b))) (ht : P.underlying t = some .bool) : QV Γ P σ o R (.d (.bool (a != b))) := fun A w F hs => by
  have h1 := hs.ev hx
  have h2 := hs.ev hy
  simp only [TRep, Rep] at h1 h2
  exact ⟨.bool (a != b), rfl, fun w' _ => by simp [execOp, h, h1, h2, run_neq_bool _ t a b ht, bne, eqGuard_at_bool]⟩
theorem q_eqlB {x y : Operand} {t t' : TypeId} {a b : Bool} (h : o.op = .binOp .eql t x y t') (hx : σ.ev x = some (true, .d (.bool a))) (hy : σ.ev y = some (true, .d (.bool b))) (ht : P.underlying t = some .bool) : QV Γ P σ o R (.d (.bool (a == b))) := fun A w F hs => by
  have h1 := hs.ev hx
  have h2 := hs.ev hy
  simp only [TRep, Rep] at h1 h2
  exact ⟨.bool (a == b), rfl, fun w' _ => by simp [execOp, h, h1, h2, run_eql_bool _ t a b ht, eqGuard_at_bool]⟩
end

end Go.Proofs.Ytnbmmopjkkofoaa
