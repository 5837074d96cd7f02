/- straitref12: a line, and a scene as a text. -/
import Derived.Test.YtofplgefmjojjaaGreatDoorScl
namespace Go.Proofs
open Go Go.Sv Num
variable {G : Imm}
end Go.Proofs
/- The law SceneWords: texts that are none, plain facts. -/
namespace Num
open Go Go.Lib Go.Proofs
end Num
namespace Go.Proofs
open Go Go.Sv Num
end Go.Proofs
namespace Go.Sv
open Go Go.RowKit
variable {P : Program} {G : Imm} {H : HL} {o : Oper} {g : List (Nat × SV)} {s : SV}
end Go.Sv
/- The law SceneWords, on the facts. -/
namespace Go.Proofs
open Go Go.Sv Num
variable {G : Imm}
end Go.Proofs
