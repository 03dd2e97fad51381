/-
  A part of the proof that contangolaw.SheetLeaves returns true: what the last text needs, and no more. No condition: no statement of the seat is proved here.
-/
import Derived.Test.YtnbmmopjkkofoaaGreatRows
import Derived.Test.YtnbmmopjkkofoaaGreatSheetLeavesC
namespace Go.Proofs.YtnbmmopjkkofoaaGreat
open Go.ChangeShapes Go.WideShapes Go.ChangeAt Go.RowKit
set_option linter.all false
theorem own : ownKnob Tryz.prog.godebug = none := by kernel_rfl
theorem laidOut : laidOutB Tryz.prog = true := by kernel_rfl
def I64 (n : Int) : Prop := (Lit.int .i64 n).wf = true
theorem I64.bd {n : Int} (h : I64 n) : -9223372036854775808 ≤ n ∧ n ≤ 9223372036854775807 := by
  have : (Lit.int .i64 n).wf = true := h
  simpa [Lit.wf, IntKind.min, IntKind.max, IntKind.signed, IntKind.bits] using this
def entOf (ds : List D) : Ent5 := match ds with
  | [.int _ a, .int _ b, .int _ c, .int _ d, .int _ e, .int _ f] => ⟨a, b, c, d, e, f⟩
  | _ => ⟨0, 0, 0, 0, 0, 0⟩
def sightOf (ds : List D) : Sight5 := match ds with
  | [.int _ a, .int _ b, .int _ c] => ⟨a, b, c⟩
  | _ => ⟨0, 0, 0⟩
def intOf1 (ds : List D) : Int := match ds with
  | [.int _ a] => a
  | _ => 0
def EntWf (e : Ent5) : Prop := I64 e.kind ∧ I64 e.sheet ∧ I64 e.frm ∧ I64 e.to ∧ I64 e.lo ∧ I64 e.hi
def SightWf (s : Sight5) : Prop := I64 s.sheet ∧ I64 s.house ∧ I64 s.day
def RegWf (r : Reg) : Prop := I64 r.houses ∧ (∀ n ∈ r.start, I64 n) ∧ (∀ e ∈ r.entries, EntWf e) ∧ ∀ s ∈ r.sights, SightWf s
theorem map_back {α : Type} {f : α → List D} {g : List D → α} {Q : α → Prop} : ∀ {es : List (List D)}, (∀ c ∈ es, c = f (g c) ∧ Q (g c)) → ∃ l : List α, es = l.map f ∧ ∀ x ∈ l, Q x
  | [], _ => ⟨[], rfl, fun _ h => by cases h⟩
  | c :: es, h => by
    obtain ⟨l, e, hq⟩ := map_back (es := es) fun x hx => h x (List.mem_cons_of_mem _ hx)
    obtain ⟨h1, h2⟩ := h c List.mem_cons_self
    exact ⟨g c :: l, by rw [List.map_cons, ← h1, ← e], fun x hx => by
      rcases List.mem_cons.1 hx with rfl | hx
      · exact h2
      · exact hq x hx⟩
abbrev SI : List D → Prop := fun ds => ∃ n, ds = [.int .i64 n] ∧ (Lit.int .i64 n).wf = true
theorem oI : Opens Tryz.prog 3 SI := opens_int Tryz.underlying3
theorem oRange : Opens Tryz.prog 68 (Parts [SI, SI]) := opens_struct (Ss := [SI, SI]) Tryz.underlying68 ⟨rfl, oI, by kernel_rfl, oI, trivial⟩ (by kernel_rfl)
theorem oEnt : Opens Tryz.prog 70 (Parts [SI, SI, SI, SI, Parts [SI, SI]]) := opens_struct (Ss := [SI, SI, SI, SI, Parts [SI, SI]]) Tryz.underlying70 ⟨rfl, oI, by kernel_rfl, oI, by kernel_rfl, oI, by kernel_rfl, oI, by kernel_rfl, oRange, trivial⟩ (by kernel_rfl)
theorem oSight : Opens Tryz.prog 74 (Parts [SI, SI, SI]) := opens_struct (Ss := [SI, SI, SI]) Tryz.underlying74 ⟨rfl, oI, by kernel_rfl, oI, by kernel_rfl, oI, trivial⟩ (by kernel_rfl)
abbrev SSl (sz e : Nat) (S : List D → Prop) : List D → Prop := fun ds => ∃ es : List (List D), ds = [.slice sz es] ∧ es.length * Tryz.prog.bytesOf e ≤ reachBytes ∧ ∀ c ∈ es, S c
theorem by3 : Tryz.prog.bytesOf 3 = 8 := by kernel_rfl
theorem by59 : Tryz.prog.bytesOf 74 = 24 := by kernel_rfl
theorem by67 : Tryz.prog.bytesOf 70 = 48 := by kernel_rfl
def RegSz (r : Reg) : Prop := r.start.length * 8 ≤ 140737488351232 ∧ r.entries.length * 48 ≤ 140737488351232 ∧ r.sights.length * 24 ≤ 140737488351232
theorem oEnts : Opens Tryz.prog 23 (SSl 6 70 (Parts [SI, SI, SI, SI, Parts [SI, SI]])) := opens_slice (sz := 6) Tryz.underlying23 (by kernel_rfl) (by omega) (fun ds h => by
  obtain ⟨_, _, rfl, ⟨_, rfl, _⟩, _, _, rfl, ⟨_, rfl, _⟩, _, _, rfl, ⟨_, rfl, _⟩, _, _, rfl, ⟨_, rfl, _⟩, _, _, rfl, ⟨_, _, rfl, ⟨_, rfl, _⟩, _, _, rfl, ⟨_, rfl, _⟩, rfl⟩, rfl⟩ := h
  rfl) oEnt
theorem oSights : Opens Tryz.prog 24 (SSl 3 74 (Parts [SI, SI, SI])) := opens_slice (sz := 3) Tryz.underlying24 (by kernel_rfl) (by omega) (fun ds h => by
  obtain ⟨_, _, rfl, ⟨_, rfl, _⟩, _, _, rfl, ⟨_, rfl, _⟩, _, _, rfl, ⟨_, rfl, _⟩, rfl⟩ := h
  rfl) oSight
theorem oInts : Opens Tryz.prog 22 (SSl 1 3 SI) := opens_slice (sz := 1) Tryz.underlying22 (by kernel_rfl) (by omega) (fun ds h => by
  obtain ⟨_, rfl, _⟩ := h
  rfl) oI
def SReg (d : D) : Prop := ∃ r : Reg, d = regD r ∧ RegWf r ∧ RegSz r
set_option maxRecDepth 100000 in
theorem pReg : OpensP Tryz.prog 26 SReg := by
  intro H enc w r b0 base spare held v d p hv h hz
  obtain ⟨x, ⟨ds, rfl, hx⟩, hr⟩ := opensP_struct Tryz.underlying26 (opens_struct (Ss := [SI, SSl 1 3 SI, SSl 6 70 (Parts [SI, SI, SI, SI, Parts [SI, SI]]), SSl 3 74 (Parts [SI, SI, SI])]) Tryz.underlying26 ⟨rfl, oI, by kernel_rfl, oInts, by kernel_rfl, oEnts, by kernel_rfl, oSights, trivial⟩ (by kernel_rfl)) enc w r b0 base spare held v d p hv h hz
  refine ⟨_, ?_, hr⟩
  obtain ⟨_, _, rfl, ⟨n, rfl, hn⟩, _, _, rfl, ⟨st, rfl, z1, hst⟩, _, _, rfl, ⟨en, rfl, z2, hen⟩, _, _, rfl, ⟨si, rfl, z3, hsi⟩, rfl⟩ := hx
  obtain ⟨l1, rfl, q1⟩ := map_back (f := intE) (g := intOf1) (Q := I64) fun c hc => by
    obtain ⟨_, rfl, h⟩ := hst c hc
    exact ⟨rfl, h⟩
  obtain ⟨l2, rfl, q2⟩ := map_back (f := entE) (g := entOf) (Q := EntWf) fun c hc => by
    obtain ⟨_, _, rfl, ⟨_, rfl, a⟩, _, _, rfl, ⟨_, rfl, b⟩, _, _, rfl, ⟨_, rfl, c⟩, _, _, rfl, ⟨_, rfl, d⟩, _, _, rfl, ⟨_, _, rfl, ⟨_, rfl, e⟩, _, _, rfl, ⟨_, rfl, f⟩, rfl⟩, rfl⟩ := hen c hc
    exact ⟨rfl, a, b, c, d, e, f⟩
  obtain ⟨l3, rfl, q3⟩ := map_back (f := sightE) (g := sightOf) (Q := SightWf) fun c hc => by
    obtain ⟨_, _, rfl, ⟨_, rfl, a⟩, _, _, rfl, ⟨_, rfl, b⟩, _, _, rfl, ⟨_, rfl, c⟩, rfl⟩ := hsi c hc
    exact ⟨rfl, a, b, c⟩
  rw [by3, List.length_map] at z1
  rw [by67, List.length_map] at z2
  rw [by59, List.length_map] at z3
  exact ⟨⟨n, l1, l2, l3⟩, rfl, ⟨hn, q1, q2, q3⟩, z1, z2, z3⟩
end Go.Proofs.YtnbmmopjkkofoaaGreat
