/- The laws VecWays, VecOrder, VecTells, on the facts. -/
import Derived.Test.YtcdlcfihjfhkgaaGreatDoorSnx
namespace Go.Proofs
open Go Go.Sv Num
variable {G : Imm}
end Go.Proofs
