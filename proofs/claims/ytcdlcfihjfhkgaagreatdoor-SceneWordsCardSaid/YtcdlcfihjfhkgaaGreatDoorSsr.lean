/- The law LineNumbers, on the facts. -/
import Derived.Test.YtcdlcfihjfhkgaaGreatDoorSsp
namespace Num
open Go Go.Lib
theorem txtF_nat (n : Nat) : txtF ((n : Int) : Rat) = decDigits n := by
  unfold txtF itxt
  rw [show (((n : Int) : Rat)).num = (n : Int) from rfl, show (((n : Int) : Rat)).den = 1 from rfl, if_neg (by omega), if_pos rfl, List.append_nil]; rfl
end Num
namespace Go.Proofs
open Go Go.Sv Num
variable {G : Imm}
end Go.Proofs
