/- The law LineTells, on the facts. -/
import Derived.Test.YtcdlcfihjfhkgaaGreatDoorSsr
namespace Num
open Go Go.Lib
theorem num3_zero {s : List UInt8} (h : (num3 s).2.2 ≠ 0) : (num3 s).1 = 0 := by
  revert h
  unfold num3 numF
  simp only
  split
  · exact fun _ => rfl
  · split
    · exact fun h => absurd rfl h
    · split
      · exact fun _ => rfl
      · split
        · exact fun _ => rfl
        · exact fun h => absurd rfl h
end Num
namespace Go.Proofs
open Go Go.Sv Num
variable {G : Imm}
theorem num3_bq (s : List UInt8) : Bq (num3 s).1 7 := by
  by_cases h : (num3 s).2.2 = 0
  · obtain ⟨q2, k2, hn⟩ : ∃ q2 k2, num3 s = (q2, k2, 0) := ⟨_, _, Prod.ext rfl (Prod.ext rfl h)⟩
    obtain ⟨_, _, _, h1, h2⟩ := num3_ok hn
    rw [hn]; exact ⟨h1, h2⟩
  · rw [num3_zero h]; exact ⟨by decide, by decide⟩
end Go.Proofs
