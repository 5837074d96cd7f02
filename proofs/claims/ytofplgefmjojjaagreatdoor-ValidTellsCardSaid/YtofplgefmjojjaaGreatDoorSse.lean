/- straitlaw06: what the document says of four texts; the laws DigitsOrder, DigitsParts, on the facts. -/
import Derived.Test.YtofplgefmjojjaaGreatDoorSsd
namespace Go.Proofs
open Go Go.Sv Num
variable {G : Imm}
instance isNat_bas : IsNat [0, 1] 4294967296 := ⟨lim_cons (by decide) (lim_cons (by decide) lim_nil), rfl⟩
instance sz_bas : Sz [0, 1] 2 := ⟨by decide⟩
end Go.Proofs
