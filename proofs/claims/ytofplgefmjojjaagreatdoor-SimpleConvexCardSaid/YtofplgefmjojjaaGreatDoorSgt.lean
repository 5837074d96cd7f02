/- straitlaw13: the law SimpleTurns, on the facts. -/
import Derived.Test.YtofplgefmjojjaaGreatDoorSge
import Derived.Test.YtofplgefmjojjaaGreatDoorSgs
namespace Num
open Go Go.Proofs
end Num
namespace Go.Proofs
open Go Go.Sv Num
variable {G : Imm}
end Go.Proofs
