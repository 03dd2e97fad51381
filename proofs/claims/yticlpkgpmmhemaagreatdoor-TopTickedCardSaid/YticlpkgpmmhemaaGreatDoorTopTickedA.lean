/-
  A part of the proof that contangolaw.TopTicked returns true: what the last text needs, and no more. No condition: no statement of the seat is proved here.
-/
import Derived.Tactics
namespace Go.Proofs.YticlpkgpmmhemaaGreatDoor
def errV (v:Value):Prop:=v = .nilIface ∨ ∃ te pe,v = .iface te pe
/-- Block, and what it holds. -/
def globs:List (Nat × (Obj → Prop)) :=
  [(0,fun x=>∃ m t f,x = .cells #[.int .i64 m] t f),(1,fun x=>∃ t f,x = .cells ((List.range 20).map fun i=>Value.int .u64 ((10 ^ i:Nat):Int)).toArray t f),
   (2,fun x=>∃ v t f,x = .cells #[v] t f ∧ errV v),(3,fun x=>∃ v t f,x = .cells #[v] t f ∧ errV v)]
end Go.Proofs.YticlpkgpmmhemaaGreatDoor
