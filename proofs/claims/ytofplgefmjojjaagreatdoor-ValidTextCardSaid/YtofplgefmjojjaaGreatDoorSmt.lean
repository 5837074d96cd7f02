/- Decimal digits: plain facts, no program. -/
import Derived.Lib.ItoaNum
import Derived.Lib.Repeat
import GoSem.Op.String
namespace Num
open Go Go.Lib
def pls (n : Nat) : List Nat := if h : n = 0 then [] else n % 1000000000 :: pls (n / 1000000000)
termination_by n
decreasing_by omega
theorem pls_zero : pls 0 = [] := by unfold pls; rfl
theorem pls_pos {n : Nat} (h : n ≠ 0) : pls n = n % 1000000000 :: pls (n / 1000000000) := by rw [pls]; simp [h]
def pd (k n : Nat) : List UInt8 := (List.range k).map fun t => dg n (k - 1 - t)
theorem pd_length (k n : Nat) : (pd k n).length = k := by simp [pd]
theorem dg_add (n i j : Nat) : dg n (i + j) = dg (n / 10 ^ i) j := by
 unfold dg
 rw [Nat.pow_add, Nat.div_div_eq_div_mul]
theorem dg_mod {n i j : Nat} (h : j < i) : dg (n % 10 ^ i) j = dg n j := by
 unfold dg
 congr 2
 obtain ⟨d, rfl⟩ : ∃ d, i = j + (d + 1) := ⟨i - j - 1, by omega⟩
 rw [Nat.pow_add, Nat.mod_mul_right_div_self, Nat.pow_succ, Nat.mul_comm (10 ^ d), Nat.mod_mul_right_mod]
theorem pd_split (k i n : Nat) : pd (k + i) n = pd k (n / 10 ^ i) ++ pd i n := by
 unfold pd
 rw [List.range_add, List.map_append, List.map_map]
 congr 1
 ·refine List.map_congr_left fun t ht => ?_
  have := List.mem_range.1 ht
  rw [← dg_add]
  congr 1; omega
 ·refine List.map_congr_left fun t ht => ?_
  have := List.mem_range.1 ht
  show dg n (k + i - 1 - (k + t)) = _
  congr 1; omega
theorem pd_mod (i n : Nat) : pd i (n % 10 ^ i) = pd i n := by
 unfold pd
 refine List.map_congr_left fun t ht => ?_
 have := List.mem_range.1 ht
 exact dg_mod (by omega)
theorem pd_zero (i : Nat) : pd i 0 = List.replicate i 48 := by
 unfold pd
 rw [List.eq_replicate_iff]
 refine ⟨by simp, fun b hb => ?_⟩
 obtain ⟨t, _, rfl⟩ := List.mem_map.1 hb
 simp [dg]
theorem pd_dec {k n : Nat} (h : nDigits n ≤ k) : pd k n = List.replicate (k - nDigits n) 48 ++ decDigits n := by
 obtain ⟨c, rfl⟩ : ∃ c, k = c + nDigits n := ⟨k - nDigits n, by omega⟩
 rw [pd_split, decDigits_eq, Nat.div_eq_of_lt (lt_pow_nDigits n), pd_zero, Nat.add_sub_cancel]
 rfl
theorem nDigits_le_of_lt : ∀ {k n : Nat}, n < 10 ^ (k + 1) → nDigits n ≤ k + 1
  | 0, n, h => by rw [nDigits_small (by simpa using h)]; exact Nat.le_refl _
  | k + 1, n, h => by
    by_cases h10 : n < 10
    · rw [nDigits_small h10]; omega
    · rw [nDigits_big h10]
      have := nDigits_le_of_lt (k := k) (n := n / 10) (by rw [Nat.pow_succ] at h; omega)
      omega
theorem pow_le_of_nDigits {n : Nat} (h : n ≠ 0) : 10 ^ (nDigits n - 1) ≤ n := by
  induction n using Nat.strongRecOn with
  | _ n ih =>
    by_cases h10 : n < 10
    · rw [nDigits_small h10]; simp; omega
    · rw [nDigits_big h10]
      have h1 := ih (n / 10) (by omega) (by omega)
      have h2 := nDigits_pos (n / 10)
      rw [show nDigits (n / 10) + 1 - 1 = (nDigits (n / 10) - 1) + 1 by omega, Nat.pow_succ]
      omega
theorem lt_pls (n : Nat) : n < 10 ^ (9 * (pls n).length) := by
  induction n using Nat.strongRecOn with
  | _ n ih =>
    by_cases h : n = 0
    · subst h; rw [pls_zero]; decide
    · rw [pls_pos h, List.length_cons, Nat.mul_succ, Nat.pow_add]
      have := ih (n / 1000000000) (by omega)
      rw [show (10 ^ 9 : Nat) = 1000000000 from rfl]
      omega
theorem dec_head {n : Nat} (h : n ≠ 0) : ∃ c r, decDigits n = c :: r ∧ c ≠ 48 := by
  induction n using Nat.strongRecOn with
  | _ n ih =>
    rw [decDigits]
    by_cases h10 : n < 10
    · rw [dif_pos h10]
      refine ⟨_, _, rfl, fun e => ?_⟩
      have : (UInt8.ofNat (48 + n)).toNat = 48 := by rw [e]; rfl
      rw [UInt8.toNat_ofNat'] at this; omega
    · rw [dif_neg h10]
      obtain ⟨c, r, h1, h2⟩ := ih (n / 10) (by omega) (by omega)
      exact ⟨c, r ++ _, by rw [h1]; rfl, h2⟩
theorem dec_zero : decDigits 0 = [48] := by rw [decDigits, dif_pos (by decide)]; rfl
theorem pls_len : ∀ {L n : Nat}, n < 4294967296 ^ L → (pls n).length ≤ 2 * L
  | 0, n, h => by
    have : n = 0 := by simpa using h
    rw [this, pls_zero]; exact Nat.le_refl _
  | L + 1, n, h => by
    by_cases h0 : n = 0
    · rw [h0, pls_zero]; exact Nat.zero_le _
    · rw [pls_pos h0, List.length_cons]
      by_cases h1 : n / 1000000000 = 0
      · rw [h1, pls_zero, List.length_nil]; omega
      · rw [pls_pos h1, List.length_cons]
        have h2 : n / 1000000000 / 1000000000 < 4294967296 ^ L := by
          rw [Nat.pow_succ] at h
          generalize 4294967296 ^ L = q at h
          omega
        have := pls_len h2
        omega
/-! reading -/
def isD (c : UInt8) : Bool := decide (48 ≤ c.toNat) && decide (c.toNat ≤ 57)
def valD (l : List UInt8) : Nat := l.foldl (fun a c => a * 10 + (c.toNat - 48)) 0
theorem valD_snoc (l : List UInt8) (c : UInt8) : valD (l ++ [c]) = valD l * 10 + (c.toNat - 48) := by unfold valD; rw [List.foldl_append]; rfl
theorem valD_take {l : List UInt8} {k : Nat} (h : k < l.length) : valD (l.take (k + 1)) = valD (l.take k) * 10 + (l[k].toNat - 48) := by
 rw [List.take_add_one, List.getElem?_eq_getElem h]
 exact valD_snoc _ _
theorem valD_lt {l : List UInt8} (h : l.all isD = true) : valD l < 10 ^ l.length := by
  have key : ∀ k, k ≤ l.length → valD (l.take k) < 10 ^ k := fun k => by
    induction k with
    | zero => intro _; rw [List.take_zero]; decide
    | succ k ih =>
      intro hk
      rw [valD_take (by omega), Nat.pow_succ]
      have h1 := ih (by omega)
      have h2 := List.all_eq_true.1 h l[k] (List.getElem_mem _)
      simp only [isD, Bool.and_eq_true, decide_eq_true_eq] at h2
      omega
  have := key l.length (Nat.le_refl _)
  rwa [List.take_length] at this
theorem dig_toNat {u : Nat} (h : u < 10) : (UInt8.ofNat (48 + u)).toNat = 48 + u := by rw [UInt8.toNat_ofNat']; omega
theorem dec_all (n : Nat) : (decDigits n).all isD = true := by
  induction n using Nat.strongRecOn with
  | _ n ih =>
    rw [decDigits]
    by_cases h : n < 10
    · rw [dif_pos h]
      simp only [List.all_cons, List.all_nil, Bool.and_true, isD, dig_toNat h, Bool.and_eq_true, decide_eq_true_eq]
      omega
    · rw [dif_neg h, List.all_append, ih (n / 10) (by omega)]
      have h1 : n % 10 < 10 := Nat.mod_lt _ (by decide)
      simp only [List.all_cons, List.all_nil, Bool.and_true, isD, dig_toNat h1, Bool.true_and, Bool.and_eq_true, decide_eq_true_eq]
      omega
theorem valD_dec (n : Nat) : valD (decDigits n) = n := by
  induction n using Nat.strongRecOn with
  | _ n ih =>
    rw [decDigits]
    by_cases h : n < 10
    · rw [dif_pos h]
      show 0 * 10 + ((UInt8.ofNat (48 + n)).toNat - 48) = n
      rw [dig_toNat h]; omega
    · rw [dif_neg h, valD_snoc, ih (n / 10) (by omega), dig_toNat (Nat.mod_lt _ (by decide))]
      omega
def okD (l : List UInt8) : Bool := !l.isEmpty && (decide (l.length ≤ 60) && l.all isD)
def pvD (l : List UInt8) : Nat := if okD l then valD l else 0
def peD (l : List UInt8) : Int := if okD l then 0 else 60
theorem nil_or_snoc {α : Type} (l : List α) : l = [] ∨ ∃ r c, l = r ++ [c] := by
 rcases List.eq_nil_or_concat l with h | ⟨r, c, h⟩
 ·exact .inl h
 ·exact .inr ⟨r, c, by simpa using h⟩
theorem nDigits_valD {l : List UInt8} (h : l.all isD = true) (hne : l ≠ []) : nDigits (valD l) ≤ l.length := by
 obtain ⟨k, hk⟩ : ∃ k, l.length = k + 1 := ⟨l.length - 1, by have := List.length_pos_iff.2 hne; omega⟩
 have := valD_lt h
 rw [hk] at this ⊢
 exact nDigits_le_of_lt this
theorem dec_append {a n k : Nat} (ha : a ≠ 0) (hn : n < 10 ^ k) : decDigits (a * 10 ^ k + n) = decDigits a ++ pd k n := by
 have hp : 0 < 10 ^ k := Nat.pow_pos (by decide)
 have hd : (a * 10 ^ k + n) / 10 ^ k = a := by rw [Nat.mul_comm, Nat.mul_add_div hp, Nat.div_eq_of_lt hn]; rfl
 have hm : (a * 10 ^ k + n) % 10 ^ k = n := by rw [Nat.mul_comm, Nat.mul_add_mod, Nat.mod_eq_of_lt hn]
 have h1 := pow_le_of_nDigits ha
 have h2 := lt_pow_nDigits a
 have h3 := nDigits_pos a
 have hN : nDigits (a * 10 ^ k + n) = nDigits a + k := by
  rw [nDigits_unique (nDigits a - 1 + k) _ ?_ ?_]
  ·omega
  ·rw [Nat.pow_add]; exact Nat.le_trans (Nat.mul_le_mul_right _ h1) (Nat.le_add_right _ _)
  ·rw [show nDigits a - 1 + k + 1 = nDigits a + k by omega, Nat.pow_add]
   have := Nat.mul_le_mul_right (10 ^ k) (Nat.succ_le_of_lt h2)
   rw [Nat.succ_mul] at this
   omega
 have h4 := pd_dec (k := nDigits a + k) (n := a * 10 ^ k + n) (by rw [hN]; exact Nat.le_refl _)
 rw [hN, Nat.sub_self, pd_split, hd, ← pd_mod k (a * 10 ^ k + n), hm] at h4
 have h5 := pd_dec (k := nDigits a) (n := a) (Nat.le_refl _)
 rw [Nat.sub_self] at h5
 rw [h5] at h4
 simpa using h4.symm
theorem nDigits_lt {m n : Nat} (h : nDigits m < nDigits n) : m < n := by
 have h1 := lt_pow_nDigits m
 have hn : n ≠ 0 := fun e => by rw [e, nDigits_small (show 0 < 10 by decide)] at h; have := nDigits_pos m; omega
 have h2 := pow_le_of_nDigits hn
 have : 10 ^ nDigits m ≤ 10 ^ (nDigits n - 1) := Nat.pow_le_pow_right (by decide) (by omega)
 omega
end Num
