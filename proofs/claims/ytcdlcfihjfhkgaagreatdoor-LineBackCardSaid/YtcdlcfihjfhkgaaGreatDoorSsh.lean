/- straitref06 and the law DigitsTells, on the facts. -/
import Derived.Test.YtcdlcfihjfhkgaaGreatDoorSse
import Derived.Test.YtcdlcfihjfhkgaaGreatDoorSsk
namespace Num
open Go Go.Lib
end Num
namespace Go.Proofs
open Go Go.Sv Num
variable {G : Imm}
theorem getDt {ls : List (List UInt8)} {i : Nat} (h : i < ls.length) : ls[i]? = some (ls.getD i default) := by simp [h]
end Go.Proofs
