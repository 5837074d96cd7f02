/- Sides: rat.Sign, rat.Same, side. -/
import Derived.Test.YtcdlcfihjfhkgaaGreatDoorSny
import Derived.Test.YtcdlcfihjfhkgaaGreatDoorSv1
namespace Go.Proofs
open Go Go.Sv Num
variable {G : Imm}
end Go.Proofs
/- Rings of points: side.ring, side.Turns. -/
namespace Go.Proofs
open Go Go.Sv Num
variable {G : Imm}
end Go.Proofs
/- Turns of a ring. -/
namespace Go.Proofs
open Go Go.Sv Num
variable {G : Imm}
end Go.Proofs
/- How great points and numbers are. -/
namespace Go.Proofs
open Go Go.Sv Num
variable {G : Imm}
def gs {α : Type} (sz : α → Nat) (xs : List α) (k : Nat) : Nat := ((xs.take k).map fun p => min (sz p) 1000).sum
end Go.Proofs
/- straitlaw09: what the document says of three points; the law SideTurns, on the facts. -/
namespace Go.Proofs
open Go Go.Sv Num
variable {G : Imm}
instance bq_five : Bq 5 1 := ⟨by decide, by decide⟩
end Go.Proofs
