/-
  A part of the proof that contangolaw.SheetEnds returns true: what the last text needs, and no more. No condition: no statement of the seat is proved here.
-/
import Derived.Test.YtnbmmopjkkofoaaRows
import Derived.Test.YtnbmmopjkkofoaaSheetEndsC
namespace Go.Proofs.Ytnbmmopjkkofoaa
open Go.ChangeShapes Go.WideShapes Go.ChangeAt Go.RowKit
set_option linter.all false
theorem own : ownKnob Try.prog.godebug = none := by kernel_rfl
theorem laidOut : laidOutB Try.prog = true := by kernel_rfl
def I64 (n : Int) : Prop := (Lit.int .i64 n).wf = true
theorem I64.bd {n : Int} (h : I64 n) : -9223372036854775808 ≤ n ∧ n ≤ 9223372036854775807 := by
  have : (Lit.int .i64 n).wf = true := h
  simpa [Lit.wf, IntKind.min, IntKind.max, IntKind.signed, IntKind.bits] using this
def intOf1 (ds : List D) : Int := match ds with
  | [.int _ a] => a
  | _ => 0
theorem map_back {α : Type} {f : α → List D} {g : List D → α} {Q : α → Prop} : ∀ {es : List (List D)}, (∀ c ∈ es, c = f (g c) ∧ Q (g c)) → ∃ l : List α, es = l.map f ∧ ∀ x ∈ l, Q x
  | [], _ => ⟨[], rfl, fun _ h => by cases h⟩
  | c :: es, h => by
    obtain ⟨l, e, hq⟩ := map_back (es := es) fun x hx => h x (List.mem_cons_of_mem _ hx)
    obtain ⟨h1, h2⟩ := h c List.mem_cons_self
    exact ⟨g c :: l, by rw [List.map_cons, ← h1, ← e], fun x hx => by
      rcases List.mem_cons.1 hx with rfl | hx
      · exact h2
      · exact hq x hx⟩
abbrev SI : List D → Prop := fun ds => ∃ n, ds = [.int .i64 n] ∧ (Lit.int .i64 n).wf = true
theorem oI : Opens Try.prog 3 SI := opens_int Try.underlying3
theorem by3 : Try.prog.bytesOf 3 = 8 := by kernel_rfl
def SInt (d : D) : Prop := ∃ n : Int, d = .int .i64 n ∧ I64 n
theorem pInt : OpensP Try.prog 3 SInt := opensP_int Try.underlying3
end Go.Proofs.Ytnbmmopjkkofoaa
