/- straitref11.Text; what the document says of lines; LineBack, on the facts. -/
import Derived.Test.YtcdlcfihjfhkgaaGreatDoorSsm
import Derived.Test.YtcdlcfihjfhkgaaGreatDoorSn2
namespace Go.Proofs
open Go Go.Sv Num
variable {G : Imm}
end Go.Proofs
