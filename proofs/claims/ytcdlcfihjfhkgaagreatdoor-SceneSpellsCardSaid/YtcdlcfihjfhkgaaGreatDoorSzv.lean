/- A scene as an argument. -/
import Derived.Test.YtcdlcfihjfhkgaaGreatDoorSci
import Derived.Test.YtcdlcfihjfhkgaaGreatDoorSnz
namespace Go.Sv
open Go Go.RowKit Go.ChangeShapes Go.WideShapes Go.Deep
section
variable {H : Type} {enc : TypeId × Value → H} {P : Program} {W : World} {base : Nat} {spare : Nat → Bool} {held : Bool}
end
end Go.Sv
namespace Go.Proofs
open Go Go.Sv Num Go.RowKit Go.ChangeShapes Go.WideShapes
section
variable {H : Type} {enc : TypeId × Value → H} {W : World} {base : Nat} {spare : Nat → Bool} {held : Bool}
end
end Go.Proofs
