/- What the arguments of the laws are: naturals and integers, opened out of a reading. -/
import Derived.Test.YtofplgefmjojjaaGreatDoorSnp
import Derived.Test.YtofplgefmjojjaaGreatDoorSv2
import Derived.Test.YtofplgefmjojjaaGreatDoorRows
import Derived.Lay
namespace Go.Proofs
open Go Go.Sv Num Go.RowKit Go.ChangeShapes Go.WideShapes
section
variable {H : Type} {enc : TypeId × Value → H} {W : World} {base : Nat} {spare : Nat → Bool} {held : Bool}
end
end Go.Proofs
