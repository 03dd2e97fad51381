/-
  Numbers, words and sights that came in, read as plain data. No condition: no statement of the seat is proved here.
-/
import Derived.Test.YtnbmmopjkkofoaaRegs
import Derived.Test.YtnbmmopjkkofoaaW6
namespace Go.Proofs.Ytnbmmopjkkofoaa
open Go.ChangeShapes Go.WideShapes Go.ChangeAt Go.RowKit
set_option linter.all false
theorem u8_bd {n : Int} (h : (Lit.int .u8 n).wf = true) : 0 ≤ n ∧ n ≤ 255 := by
  simpa [Lit.wf, IntKind.min, IntKind.max, IntKind.signed, IntKind.bits] using h
theorem u16_bd {n : Int} (h : (Lit.int .u16 n).wf = true) : 0 ≤ n ∧ n ≤ 65535 := by
  simpa [Lit.wf, IntKind.min, IntKind.max, IntKind.signed, IntKind.bits] using h
def SU8 (d : D) : Prop := ∃ n : Nat, d = .int .u8 (n : Nat) ∧ n < 256
def SU16 (d : D) : Prop := ∃ n : Nat, d = .int .u16 (n : Nat) ∧ n < 65536
def SInts (d : D) : Prop := ∃ l : List Int, d = ints l ∧ (∀ n ∈ l, I64 n) ∧ l.length * 8 ≤ 140737488351232
def SSight (d : D) : Prop := ∃ s : Sight5, d = .agg (sightE s) ∧ SightWf s
def SU16s (d : D) : Prop := ∃ l : List Nat, d = wordsD l ∧ (∀ n ∈ l, n < 65536) ∧ l.length * 2 ≤ 140737488351232
theorem by71 : Try.prog.bytesOf 71 = 2 := by kernel_rfl
theorem opensP_imp {P : Program} {t : TypeId} {S S' : D → Prop} (h : OpensP P t S) (k : ∀ x, S x → S' x) : OpensP P t S' := fun enc w r b0 base spare held v d p h1 h2 h3 => by
  obtain ⟨x, hx, hr⟩ := h enc w r b0 base spare held v d p h1 h2 h3
  exact ⟨x, k x hx, hr⟩
theorem pU8 : OpensP Try.prog 5 SU8 := opensP_imp (opensP_int Try.underlying5) fun x ⟨n, e, hw⟩ => by
  have := u8_bd hw
  exact ⟨n.toNat, by rw [e]; congr 1; omega, by omega⟩
theorem pU16 : OpensP Try.prog 71 SU16 := opensP_imp (opensP_int Try.underlying71) fun x ⟨n, e, hw⟩ => by
  have := u16_bd hw
  exact ⟨n.toNat, by rw [e]; congr 1; omega, by omega⟩
theorem pInts : OpensP Try.prog 22 SInts := opensP_imp (opensP_slice (sz := 1) Try.underlying22 (by kernel_rfl) (by omega) (fun ds h => by
  obtain ⟨_, rfl, _⟩ := h
  rfl) oI) fun x ⟨es, e, z, h⟩ => by
  obtain ⟨l, rfl, q⟩ := map_back (f := intE) (g := intOf1) (Q := I64) fun c hc => by
    obtain ⟨_, rfl, h⟩ := h c hc
    exact ⟨rfl, h⟩
  rw [by3, List.length_map] at z
  exact ⟨l, e, q, z⟩
theorem pSight : OpensP Try.prog 59 SSight := opensP_imp (opensP_struct Try.underlying59 oSight) fun x ⟨ds, e, h⟩ => by
  obtain ⟨_, _, rfl, ⟨_, rfl, a⟩, _, _, rfl, ⟨_, rfl, b⟩, _, _, rfl, ⟨_, rfl, c⟩, rfl⟩ := h
  exact ⟨⟨_, _, _⟩, e, a, b, c⟩
abbrev SW : List D → Prop := fun ds => ∃ n, ds = [.int .u16 n] ∧ (Lit.int .u16 n).wf = true
def wordOf (ds : List D) : Nat := match ds with
  | [.int _ a] => a.toNat
  | _ => 0
theorem pU16s : OpensP Try.prog 52 SU16s := opensP_imp (opensP_slice (sz := 1) Try.underlying52 (by kernel_rfl) (by omega) (fun ds h => by
  obtain ⟨_, rfl, _⟩ := h
  rfl) (opens_int Try.underlying71)) fun x ⟨es, e, z, h⟩ => by
  obtain ⟨l, rfl, q⟩ := map_back (f := wordE) (g := wordOf) (Q := fun n => n < 65536) fun c hc => by
    obtain ⟨n, rfl, hw⟩ := h c hc
    have := u16_bd hw
    refine ⟨?_, by show n.toNat < _; omega⟩
    show [D.int .u16 n] = [D.int .u16 ((n.toNat : Nat) : Int)]
    rw [show ((n.toNat : Nat) : Int) = n by omega]
  rw [by71, List.length_map] at z
  exact ⟨l, e, q, z⟩
end Go.Proofs.Ytnbmmopjkkofoaa
