/- A drawn region of chained effects, the first of which waits for nothing that looks at what the later ones turn. -/
import Derived.Test.YtofplgefmjojjaaGreatDoorSv1
namespace Go.Sv
open Go Go.RowKit
section
variable {P : Program} {G : Imm} {E : Env} {r : Option Nat} {S : St}
end
end Go.Sv
