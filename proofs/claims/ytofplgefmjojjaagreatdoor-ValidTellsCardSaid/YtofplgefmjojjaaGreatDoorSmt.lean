/- Decimal digits: plain facts, no program. -/
import Derived.Lib.ItoaNum
import Derived.Lib.Repeat
import GoSem.Op.String
namespace Num
open Go Go.Lib
theorem nDigits_le_of_lt : ∀ {k n : Nat}, n < 10 ^ (k + 1) → nDigits n ≤ k + 1
  | 0, n, h => by rw [nDigits_small (by simpa using h)]; exact Nat.le_refl _
  | k + 1, n, h => by
    by_cases h10 : n < 10
    · rw [nDigits_small h10]; omega
    · rw [nDigits_big h10]
      have := nDigits_le_of_lt (k := k) (n := n / 10) (by rw [Nat.pow_succ] at h; omega)
      omega
theorem pow_le_of_nDigits {n : Nat} (h : n ≠ 0) : 10 ^ (nDigits n - 1) ≤ n := by
  induction n using Nat.strongRecOn with
  | _ n ih =>
    by_cases h10 : n < 10
    · rw [nDigits_small h10]; simp; omega
    · rw [nDigits_big h10]
      have h1 := ih (n / 10) (by omega) (by omega)
      have h2 := nDigits_pos (n / 10)
      rw [show nDigits (n / 10) + 1 - 1 = (nDigits (n / 10) - 1) + 1 by omega, Nat.pow_succ]
      omega
/-! reading -/
def isD (c : UInt8) : Bool := decide (48 ≤ c.toNat) && decide (c.toNat ≤ 57)
def valD (l : List UInt8) : Nat := l.foldl (fun a c => a * 10 + (c.toNat - 48)) 0
theorem valD_snoc (l : List UInt8) (c : UInt8) : valD (l ++ [c]) = valD l * 10 + (c.toNat - 48) := by unfold valD; rw [List.foldl_append]; rfl
theorem valD_take {l : List UInt8} {k : Nat} (h : k < l.length) : valD (l.take (k + 1)) = valD (l.take k) * 10 + (l[k].toNat - 48) := by
 rw [List.take_add_one, List.getElem?_eq_getElem h]
 exact valD_snoc _ _
theorem valD_lt {l : List UInt8} (h : l.all isD = true) : valD l < 10 ^ l.length := by
  have key : ∀ k, k ≤ l.length → valD (l.take k) < 10 ^ k := fun k => by
    induction k with
    | zero => intro _; rw [List.take_zero]; decide
    | succ k ih =>
      intro hk
      rw [valD_take (by omega), Nat.pow_succ]
      have h1 := ih (by omega)
      have h2 := List.all_eq_true.1 h l[k] (List.getElem_mem _)
      simp only [isD, Bool.and_eq_true, decide_eq_true_eq] at h2
      omega
  have := key l.length (Nat.le_refl _)
  rwa [List.take_length] at this
theorem dig_toNat {u : Nat} (h : u < 10) : (UInt8.ofNat (48 + u)).toNat = 48 + u := by rw [UInt8.toNat_ofNat']; omega
theorem dec_all (n : Nat) : (decDigits n).all isD = true := by
  induction n using Nat.strongRecOn with
  | _ n ih =>
    rw [decDigits]
    by_cases h : n < 10
    · rw [dif_pos h]
      simp only [List.all_cons, List.all_nil, Bool.and_true, isD, dig_toNat h, Bool.and_eq_true, decide_eq_true_eq]
      omega
    · rw [dif_neg h, List.all_append, ih (n / 10) (by omega)]
      have h1 : n % 10 < 10 := Nat.mod_lt _ (by decide)
      simp only [List.all_cons, List.all_nil, Bool.and_true, isD, dig_toNat h1, Bool.true_and, Bool.and_eq_true, decide_eq_true_eq]
      omega
theorem valD_dec (n : Nat) : valD (decDigits n) = n := by
  induction n using Nat.strongRecOn with
  | _ n ih =>
    rw [decDigits]
    by_cases h : n < 10
    · rw [dif_pos h]
      show 0 * 10 + ((UInt8.ofNat (48 + n)).toNat - 48) = n
      rw [dig_toNat h]; omega
    · rw [dif_neg h, valD_snoc, ih (n / 10) (by omega), dig_toNat (Nat.mod_lt _ (by decide))]
      omega
def okD (l : List UInt8) : Bool := !l.isEmpty && (decide (l.length ≤ 60) && l.all isD)
def pvD (l : List UInt8) : Nat := if okD l then valD l else 0
def peD (l : List UInt8) : Int := if okD l then 0 else 60
theorem nil_or_snoc {α : Type} (l : List α) : l = [] ∨ ∃ r c, l = r ++ [c] := by
 rcases List.eq_nil_or_concat l with h | ⟨r, c, h⟩
 ·exact .inl h
 ·exact .inr ⟨r, c, by simpa using h⟩
theorem nDigits_valD {l : List UInt8} (h : l.all isD = true) (hne : l ≠ []) : nDigits (valD l) ≤ l.length := by
 obtain ⟨k, hk⟩ : ∃ k, l.length = k + 1 := ⟨l.length - 1, by have := List.length_pos_iff.2 hne; omega⟩
 have := valD_lt h
 rw [hk] at this ⊢
 exact nDigits_le_of_lt this
theorem nDigits_lt {m n : Nat} (h : nDigits m < nDigits n) : m < n := by
 have h1 := lt_pow_nDigits m
 have hn : n ≠ 0 := fun e => by rw [e, nDigits_small (show 0 < 10 by decide)] at h; have := nDigits_pos m; omega
 have h2 := pow_le_of_nDigits hn
 have : 10 ^ nDigits m ≤ 10 ^ (nDigits n - 1) := Nat.pow_le_pow_right (by decide) (by omega)
 omega
end Num
