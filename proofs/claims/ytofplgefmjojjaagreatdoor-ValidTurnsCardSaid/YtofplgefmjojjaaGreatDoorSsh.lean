/- straitref06 and the law DigitsTells, on the facts. -/
import Derived.Test.YtofplgefmjojjaaGreatDoorSse
import Derived.Test.YtofplgefmjojjaaGreatDoorSsk
namespace Num
open Go Go.Lib
end Num
namespace Go.Proofs
open Go Go.Sv Num
variable {G : Imm}
end Go.Proofs
