/- straitlaw11: what the document says of lines; the law LineBack, on the facts. -/
import Derived.Test.YtcdlcfihjfhkgaaGreatDoorSsn
namespace Go.Proofs
open Go Go.Sv Num
variable {G : Imm}
instance bq72 : Bq (mkRat (-7) 2) 1 := ⟨by decide +kernel, by decide +kernel⟩
end Go.Proofs
