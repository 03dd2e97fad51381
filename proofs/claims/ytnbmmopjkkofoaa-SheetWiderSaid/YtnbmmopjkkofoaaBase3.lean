/-
  Still more rules. No condition: no statement of the seat is proved here.
-/
import Derived.Test.YtnbmmopjkkofoaaBase2
namespace Go.Proofs.Ytnbmmopjkkofoaa
open Go.RowKit
set_option linter.all false

/-! ### Slices of data slices -/
section
variable {Γ : Cx} {P : Program} {σ : St} {o : Oper} {R : Rel}
theorem map_add0 (ad : Option Addr) : ad.map (fun a => a.add 0) = ad := by cases ad <;> rfl
theorem q_sliceH {x y : Operand} {t e : TypeId} {sz : Nat} {es es' : List (List D)} {k : IntKind} {m : Int} {j : Nat} (h : o.op = .slice t x none (some y) none) (hx : σ.ev x = some (true, .d (.slice sz es))) (hy : σ.ev y = some (true, .d (.int k m)))
    (ht : P.underlying t = some (.slice e)) (hz : Sz P e sz) (hm : m = (j : Int)) (hj : j ≤ es.length) (he' : es.take j = es') : QV Γ P σ o R (.d (.slice sz es')) := fun a w F hs => by
  obtain ⟨ad, cap, e1, hle, hcap, hrow⟩ := hs.ev hx
  have h2 := hs.ev hy
  simp only [TRep, Rep] at h2
  subst hm
  subst he'
  have hj2 : j ≤ cap := by omega
  refine ⟨.slice ad j cap, ⟨ad, cap, by rw [List.length_take, Nat.min_eq_left hj], by rw [List.length_take, Nat.min_eq_left hj]; omega, hcap, ?_⟩, fun w' _ => ?_⟩
  · rcases hrow with rfl | ⟨b, o, h1, h3⟩
    · exact .inl (by simp)
    · exact .inr ⟨b, o, h1, h3.take j⟩
  · simp [execOp, h, e1, h2, Instr.sliceAt, Instr.slice, run_underlying ht, Instr.sliceBounds, Instr.sliceBound, asIntOf, run_sz hz, hj2, map_add0]
theorem q_sliceL {x y : Operand} {t e : TypeId} {sz : Nat} {es es' : List (List D)} {k : IntKind} {m : Int} {j : Nat} (h : o.op = .slice t x (some y) none none) (hx : σ.ev x = some (true, .d (.slice sz es))) (hy : σ.ev y = some (true, .d (.int k m)))
    (ht : P.underlying t = some (.slice e)) (hz : Sz P e sz) (hm : m = (j : Int)) (hj : j ≤ es.length) (he' : es.drop j = es') : QV Γ P σ o R (.d (.slice sz es')) := fun a w F hs => by
  obtain ⟨ad, cap, e1, hle, hcap, hrow⟩ := hs.ev hx
  have h2 := hs.ev hy
  simp only [TRep, Rep] at h2
  subst hm
  subst he'
  refine ⟨.slice (if cap = j then ad else ad.map (·.add (j * sz))) (es.length - j) (cap - j), ⟨_, cap - j, by rw [List.length_drop], by rw [List.length_drop]; omega, by omega, ?_⟩, fun w' _ => ?_⟩
  · rcases hrow with rfl | ⟨b, o, h1, h3⟩
    · exact .inl (by simp)
    · by_cases hc : cap = j
      · exact .inl (by rw [List.drop_of_length_le (by omega)])
      · refine .inr ⟨b, o + j * sz, by rw [if_neg hc, h1]; simp [Addr.add], h3.drop j⟩
  · simp [execOp, h, e1, h2, Instr.sliceAt, Instr.slice, run_underlying ht, Instr.sliceBounds, Instr.sliceBound, asIntOf, run_sz hz, hj]
end

/-! ### Bools compared -/
section
variable {Γ : Cx} {P : Program} {σ : St} {o : Oper} {R : Rel}
theorem q_neqB {x y : Operand} {t t' : TypeId} {a b : Bool} (h : o.op = .binOp .neq t x y t') (hx : σ.ev x = some (true, .d (.bool a))) (hy : σ.ev y = some (true, .d (.bool b))) (ht : P.underlying t = some .bool) : QV Γ P σ o R (.d (.bool (a != b))) := fun A w F hs => by
  have h1 := hs.ev hx
  have h2 := hs.ev hy
  simp only [TRep, Rep] at h1 h2
  exact ⟨.bool (a != b), rfl, fun w' _ => by simp [execOp, h, h1, h2, run_neq_bool _ t a b ht, bne, eqGuard_at_bool]⟩
theorem q_eqlB {x y : Operand} {t t' : TypeId} {a b : Bool} (h : o.op = .binOp .eql t x y t') (hx : σ.ev x = some (true, .d (.bool a))) (hy : σ.ev y = some (true, .d (.bool b))) (ht : P.underlying t = some .bool) : QV Γ P σ o R (.d (.bool (a == b))) := fun A w F hs => by
  have h1 := hs.ev hx
  have h2 := hs.ev hy
  simp only [TRep, Rep] at h1 h2
  exact ⟨.bool (a == b), rfl, fun w' _ => by simp [execOp, h, h1, h2, run_eql_bool _ t a b ht, eqGuard_at_bool]⟩
end

/-! ### Slices of one's own that are written: built, kept in a cell, read as data -/
section
variable {Γ : Cx} {P : Program} {σ : St} {ops : Array Oper} {o : Oper} {Q : Exit → Act → World → Prop} {W : Nat → Prop}
theorem s_buildVec {t e : TypeId} {len sz dt : Nat} {parts : Array (Nat × Operand)} {z : Value} {zc : Array Value} {zs cs : List TV} {ps : List (Nat × TV)} (id : Nat) (h : o.op = .buildSlice t len parts)
    (hg : o.guard = none) (hd : o.dst = some dt) (hn : Nat.blt dt Γ.n = true) (ht : P.underlying t = some (.slice e)) (hsz : Sz P e sz) (hzero : (P.info? e).map (·.zero) = some (some z))
    (hsmall : Nat.ble (len * sz) 16777216 = true) (hzc : ((Array.range (len * sz)).map ((if len * sz = 0 then #[] else z.cells)[· % (if len * sz = 0 then #[] else z.cells).size]!)) = zc)
    (hz : zc.toList.map constTV = zs) (h1 : zc.toList.all (·.oneCell') = true) (hp : pevs σ parts.toList = some ps) (hf : fillTV (fun i => some (i * sz, sz)) zs ps = some cs) :
    StepW Γ P ops σ o W fun b : Nat => (σ.put dt true (.val (.slice (some ⟨b, 0, none⟩) len len))).rput id (.box b e cs) := fun a w F hs K Q hK => by
  rw [if_pos (plain_wanted hg a)]
  have h24 : (2 : Nat) ^ 24 = 16777216 := by decide
  have hsm := Nat.le_of_ble_eq_true hsmall
  obtain ⟨k1, k2⟩ := hs.pevs hp
  obtain ⟨vs', g1, g2, g3⟩ := fill_ok (w := w) (F := F) (place := fun i => some (i * sz, sz)) (vs := zc) k1 k2 (by rw [← hz]; exact treps_const _) (List.all_eq_true.1 h1) hf
  have hrun := run_buildSlice' (parts := parts.map fun (i, x) => (i, a.eval x)) (cells := vs') w ht hsz hzero (by rw [h24]; exact hsm) hzc (by rw [← g1]; simp)
  have hex : (execOp a.eval o).run P w = .ok (.value (.slice (some ⟨w.heap.size, 0, none⟩) len len)) (w.alloc (.cells vs' e)) := by
    simp only [execOp, h, Sem.run_bind, hrun, Result.andThen_ok, Sem.run_pure]
  unfold Oper.wp
  rw [hex]
  show K (a.put o.dst _) _
  rw [hd]
  exact hK w.heap.size _ _ F ((hs.newBox (ty := e) id g2 g3).put (blt_lt hn) (fun _ => rfl) (fun h => by cases h)) (fun _ _ h => h) (by simp) ((Grow.alloc hs.fcell _).agree (fun _ e => by cases e))
/-- Such a slice in a box's cell, read as data. -/
theorem gh_veccell {id b k rid b2 n cap sz : Nat} {bt e : TypeId} {cs rest : List TV} {ds : List D} {es : List (List D)} (hb : σ.rget id = some (.box b bt cs)) (hk : cs[k]? = some (.val (.slice (some ⟨b2, 0, none⟩) n cap)))
    (hr : σ.rget rid = some (.box b2 e (ds.map .d ++ rest))) (hne : Nat.beq rid id = false) (hl : ds.length = n * sz) (he : chunk sz n ds = es) (hcap : n ≤ cap) (hcm : cap ≤ maxLen) :
    Ghost Γ σ ((σ.rput rid .gone).rput id (.box b bt (cs.set k (.d (.slice sz es))))) := fun a w F hs => by
  obtain ⟨F', h1, h2, h3⟩ := hs.freezeK hr
  obtain ⟨k1, k2, k3⟩ := chunk_flat sz n ds hl
  rw [he] at k1 k2 k3
  have hne' : rid ≠ id := fun h => by rw [h, Nat.beq_refl] at hne; cases hne
  refine ⟨F', ?_, h2⟩
  exact h1.reread (by rw [rget_rput, if_neg hne']; exact hb) (fun vs hv => hv.get_set fun u hu => by
    obtain ⟨u', hu', hr'⟩ := hv.get hk
    rw [hu'] at hu; cases hu
    simp only [TRep] at hr'
    subst hr'
    exact ⟨_, cap, by rw [k2], by rw [k2]; exact hcap, hcm, .inr ⟨b2, 0, rfl, RepRows.flat.2 ⟨k3, by rw [k1]; exact h3⟩⟩⟩)
end

end Go.Proofs.Ytnbmmopjkkofoaa
