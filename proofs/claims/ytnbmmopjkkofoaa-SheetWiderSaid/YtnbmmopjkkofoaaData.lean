/-
  Plain data of layer 5: registers, and how they lie in memory. No condition: no statement of the seat is proved here.
-/
import Derived.Test.YtnbmmopjkkofoaaBase2
namespace Go.Proofs.Ytnbmmopjkkofoaa
open Go.RowKit

structure Ent5 where
  kind : Int
  sheet : Int
  frm : Int
  to : Int
  lo : Int
  hi : Int
structure Sight5 where
  sheet : Int
  house : Int
  day : Int
structure Reg where
  houses : Int
  start : List Int
  entries : List Ent5
  sights : List Sight5

@[reducible] def intE (n : Int) : List D := [.int .i64 n]
@[reducible] def entE (e : Ent5) : List D := [.int .i64 e.kind, .int .i64 e.sheet, .int .i64 e.frm, .int .i64 e.to, .int .i64 e.lo, .int .i64 e.hi]
@[reducible] def sightE (s : Sight5) : List D := [.int .i64 s.sheet, .int .i64 s.house, .int .i64 s.day]
@[reducible] def ints (l : List Int) : D := .slice 1 (l.map intE)
@[reducible] def entsD (l : List Ent5) : D := .slice 6 (l.map entE)
@[reducible] def sightsD (l : List Sight5) : D := .slice 3 (l.map sightE)
@[reducible] def regC (r : Reg) : List D := [.int .i64 r.houses, ints r.start, entsD r.entries, sightsD r.sights]
@[reducible] def regD (r : Reg) : D := .agg (regC r)
@[reducible] def doneE (n : Nat) : List D := [.int .u64 n]
@[reducible] def donesD (l : List Nat) : D := .slice 1 (l.map doneE)

def iw (n : Int) : Int := IntKind.i64.wrap n
theorem iw_of {n : Int} (h : -9223372036854775808 ≤ n ∧ n ≤ 9223372036854775807) : iw n = n := i64w h rfl
theorem iw_range (n : Int) : -9223372036854775808 ≤ iw n ∧ iw n ≤ 9223372036854775807 := by
  simp only [iw, IntKind.wrap, IntKind.bits, IntKind.signed]
  simp
  omega

theorem mget {α β : Type} {l : List α} {f : α → β} {i : Nat} {x : α} (h : l[i]? = some x) : (l.map f)[i]? = some (f x) := by simp [h]
theorem take_all_succ {α : Type} {l : List α} {p : α → Bool} {i : Nat} {x : α} (h : l[i]? = some x) (ha : (l.take i).all p = true) (hx : p x = true) : (l.take (i + 1)).all p = true := by
  rw [List.take_add_one, h]
  simp [ha, hx]
theorem ex_get {α : Type} {l : List α} {i : Nat} (h : i < l.length) : ∃ x, l[i]? = some x := ⟨_, List.getElem?_eq_getElem h⟩

theorem full_all {α β : Type} {l : List α} {f : α → β} {p : α → Bool} {i : Nat} (h : ((l.map f).length : Int) ≤ (i : Int)) (hi : i ≤ l.length) (ha : (l.take i).all p = true) : l.all p = true := by
  have e : i = l.length := by simp only [List.length_map] at h; omega
  subst e
  simpa using ha

/-- The index of the first element that is so, or -1. -/
def idxOf {α : Type} (p : α → Bool) (l : List α) : Int := match l.findIdx? p with
  | some i => (i : Int)
  | none => -1
theorem idxOf_hit {α : Type} {p : α → Bool} {l : List α} {i : Nat} {x : α} (h : l[i]? = some x) (ha : (l.take i).all (fun x => !p x) = true) (hx : p x = true) : idxOf p l = i := by
  have : l.findIdx? p = some i := by
    rw [List.findIdx?_eq_some_iff_getElem]
    obtain ⟨hlt, rfl⟩ := List.getElem?_eq_some_iff.1 h
    refine ⟨hlt, hx, fun j hj => ?_⟩
    have := List.all_eq_true.1 ha l[j] (by rw [List.mem_take_iff_getElem]; exact ⟨j, by omega, rfl⟩)
    simpa using this
  simp [idxOf, this]
theorem idxOf_miss {α : Type} {p : α → Bool} {l : List α} (ha : l.all (fun x => !p x) = true) : idxOf p l = -1 := by
  have : l.findIdx? p = none := by
    rw [List.findIdx?_eq_none_iff]
    intro x hx
    simpa using List.all_eq_true.1 ha x hx
  simp [idxOf, this]
theorem idxOf_nonneg {α : Type} {p : α → Bool} {l : List α} : decide (0 ≤ idxOf p l) = l.any p := by
  unfold idxOf
  cases h : l.findIdx? p with
  | none =>
    rw [List.findIdx?_eq_none_iff] at h
    have : l.any p = false := by
      rw [List.any_eq_false]
      intro x hx
      simp [h x hx]
    simp [this]
  | some i =>
    have : l.any p = true := by
      rw [List.findIdx?_eq_some_iff_getElem] at h
      obtain ⟨hlt, hx, _⟩ := h
      exact List.any_eq_true.2 ⟨_, List.getElem_mem hlt, hx⟩
    simp [this]
end Go.Proofs.Ytnbmmopjkkofoaa
