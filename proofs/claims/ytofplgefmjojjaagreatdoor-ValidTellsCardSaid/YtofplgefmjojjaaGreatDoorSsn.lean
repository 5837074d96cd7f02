/- straitref11.Text; what the document says of lines; LineBack, on the facts. -/
import Derived.Test.YtofplgefmjojjaaGreatDoorSsm
import Derived.Test.YtofplgefmjojjaaGreatDoorSn2
namespace Go.Proofs
open Go Go.Sv Num
variable {G : Imm}
end Go.Proofs
/- straitlaw11: what the document says of lines; the law LineBack, on the facts. -/
namespace Go.Proofs
open Go Go.Sv Num
variable {G : Imm}
instance bq72 : Bq (mkRat (-7) 2) 1 := ⟨by decide +kernel, by decide +kernel⟩
end Go.Proofs
/- The law LineBack, on the facts. -/
namespace Num
open Go Go.Lib
def kD (q : Rat) : Nat := if q.den = 1 then nDigits q.num.natAbs else max (nDigits q.num.natAbs) (nDigits q.den)
theorem num3_back {q : Rat} (h1 : nDigits q.num.natAbs ≤ 60) (h2 : nDigits q.den ≤ 60) : num3 (txtF q) = (q, ((kD q : Nat) : Int), 0) := numF_back h1 h2
theorem num3_err (s : List UInt8) : (num3 s).2.2 = 0 ∨ (num3 s).2.2 = 30 ∨ ((num3 s).2.2 = 60 ∧ (num3 s).2.1 = 0) := by
 unfold num3 numF
 simp only
 split
 ·exact .inr (.inr ⟨rfl, rfl⟩)
 ·split
  ·exact .inl rfl
  ·split
   ·exact .inr (.inr ⟨rfl, rfl⟩)
   ·split
    ·exact .inr (.inl rfl)
    ·exact .inl rfl
theorem num3_ok {s : List UInt8} {q : Rat} {k : Int} (h : num3 s = (q, k, 0)) : num3 (txtF q) = (q, ((kD q : Nat) : Int), 0) ∧ (kD q : Int) ≤ k ∧ k ≤ 60 ∧ q.num.natAbs < 4294967296 ^ 7 ∧ q.den < 4294967296 ^ 7 := by
 obtain ⟨h1, h2, h3, h4⟩ := numF_ok h
 have p1 : q.num.natAbs < 10 ^ 60 := Nat.lt_of_lt_of_le (lt_pow_nDigits _) (Nat.pow_le_pow_right (by decide) h1)
 have p2 : q.den < 10 ^ 60 := Nat.lt_of_lt_of_le (lt_pow_nDigits _) (Nat.pow_le_pow_right (by decide) h2)
 exact ⟨num3_back h1 h2, h3, h4, Nat.lt_of_lt_of_le p1 (by decide), Nat.lt_of_lt_of_le p2 (by decide)⟩
end Num
namespace Go.Proofs
open Go Go.Sv Num
variable {G : Imm}
end Go.Proofs
/- The law LineParts, on the facts. -/
namespace Num
open Go Go.Lib
def nl (ws : List (List UInt8)) : List UInt8 := ws.flatMap fun w => w ++ [10]
theorem nl_join {ws : List (List UInt8)} (h : ws ≠ []) : nl ws = join ws [10] ++ [10] := by
  induction ws with
  | nil => exact absurd rfl h
  | cons w v ih =>
    cases v with
    | nil => simp [nl, join]
    | cons y v =>
      have := ih (by simp)
      unfold nl join at this ⊢
      rw [List.flatMap_cons, this, List.intercalate_cons_cons]; simp
theorem lnOk_snoc (r : List UInt8) : lnOk (r ++ [10]) = ful (spl 10 r) ∧ trimSuffix (r ++ [10]) [10] = r := by
 rcases suffix_cases (r ++ [10]) 10 with ⟨r', h, hs, ht⟩ | ⟨_, _, h⟩
 ·have e : r = r' := (List.append_inj_left' h rfl)
  subst e
  exact ⟨by unfold lnOk; rw [hs, ht]; rfl, ht⟩
 ·exact absurd (by simp) h
end Num
namespace Go.Proofs
open Go Go.Sv Num
variable {G : Imm}
end Go.Proofs
/- The law LineNumbers, on the facts. -/
namespace Num
open Go Go.Lib
end Num
namespace Go.Proofs
open Go Go.Sv Num
variable {G : Imm}
end Go.Proofs
/- The law LineTells, on the facts. -/
namespace Num
open Go Go.Lib
theorem num3_zero {s : List UInt8} (h : (num3 s).2.2 ≠ 0) : (num3 s).1 = 0 := by
 revert h
 unfold num3 numF
 simp only
 split
 ·exact fun _ => rfl
 ·split
  ·exact fun h => absurd rfl h
  ·split
   ·exact fun _ => rfl
   ·split
    ·exact fun _ => rfl
    ·exact fun h => absurd rfl h
end Num
namespace Go.Proofs
open Go Go.Sv Num
variable {G : Imm}
theorem num3_bq (s : List UInt8) : Bq (num3 s).1 7 := by
 by_cases h : (num3 s).2.2 = 0
 ·obtain ⟨q2, k2, hn⟩ : ∃ q2 k2, num3 s = (q2, k2, 0) := ⟨_, _, Prod.ext rfl (Prod.ext rfl h)⟩
  obtain ⟨_, _, _, h1, h2⟩ := num3_ok hn
  rw [hn]; exact ⟨h1, h2⟩
 ·rw [num3_zero h]; exact ⟨by decide, by decide⟩
end Go.Proofs
