/- The law LineBack, on the facts. -/
import Derived.Test.YtcdlcfihjfhkgaaGreatDoorSso
namespace Num
open Go Go.Lib
def kD (q : Rat) : Nat := if q.den = 1 then nDigits q.num.natAbs else max (nDigits q.num.natAbs) (nDigits q.den)
theorem num3_back {q : Rat} (h1 : nDigits q.num.natAbs ≤ 60) (h2 : nDigits q.den ≤ 60) : num3 (txtF q) = (q, ((kD q : Nat) : Int), 0) := numF_back h1 h2
theorem num3_err (s : List UInt8) : (num3 s).2.2 = 0 ∨ (num3 s).2.2 = 30 ∨ ((num3 s).2.2 = 60 ∧ (num3 s).2.1 = 0) := by
  unfold num3 numF
  simp only
  split
  · exact .inr (.inr ⟨rfl, rfl⟩)
  · split
    · exact .inl rfl
    · split
      · exact .inr (.inr ⟨rfl, rfl⟩)
      · split
        · exact .inr (.inl rfl)
        · exact .inl rfl
theorem num3_ok {s : List UInt8} {q : Rat} {k : Int} (h : num3 s = (q, k, 0)) : num3 (txtF q) = (q, ((kD q : Nat) : Int), 0) ∧ (kD q : Int) ≤ k ∧ k ≤ 60 ∧ q.num.natAbs < 4294967296 ^ 7 ∧ q.den < 4294967296 ^ 7 := by
  obtain ⟨h1, h2, h3, h4⟩ := numF_ok h
  have p1 : q.num.natAbs < 10 ^ 60 := Nat.lt_of_lt_of_le (lt_pow_nDigits _) (Nat.pow_le_pow_right (by decide) h1)
  have p2 : q.den < 10 ^ 60 := Nat.lt_of_lt_of_le (lt_pow_nDigits _) (Nat.pow_le_pow_right (by decide) h2)
  exact ⟨num3_back h1 h2, h3, h4, Nat.lt_of_lt_of_le p1 (by decide), Nat.lt_of_lt_of_le p2 (by decide)⟩
end Num
namespace Go.Proofs
open Go Go.Sv Num
variable {G : Imm}
theorem txt_le {q : Rat} {k : Nat} (h : Bq q k) (hk : k ≤ 1000) : (txtF q).length ≤ 50000 := by
  have h1 := itxt_le h.num hk
  have h2 := dec_le h.den hk
  unfold txtF
  rw [List.length_append]
  split
  · simp; omega
  · rw [List.length_cons]; have : (Lib.decDigits q.den).length ≤ 20000 := h2; omega
end Go.Proofs
