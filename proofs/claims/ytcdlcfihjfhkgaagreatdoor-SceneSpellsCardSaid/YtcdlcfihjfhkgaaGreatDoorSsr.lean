/- The law LineNumbers, on the facts. -/
import Derived.Test.YtcdlcfihjfhkgaaGreatDoorSsp
namespace Num
open Go Go.Lib
abbrev nts (k : Nat) : List UInt8 := List.replicate k 48
theorem nts_all (k : Nat) : (nts k).all isD = true := by
  rw [List.all_eq_true]; intro c h; rw [List.eq_of_mem_replicate h]; rfl
theorem nts_val (k : Nat) : valD (nts k) = 0 := by
  induction k with
  | zero => rfl
  | succ k ih => rw [nts, List.replicate_succ', valD_snoc, ih]; rfl
theorem nts_dec (k n : Nat) : valD (nts k ++ decDigits n) = n ∧ (nts k ++ decDigits n).all isD = true ∧ (nts k ++ decDigits n).length = k + nDigits n := by
  refine ⟨?_, ?_, ?_⟩
  · rw [valD_append, nts_val, valD_dec]; omega
  · rw [List.all_append, nts_all, dec_all]; rfl
  · rw [List.length_append, List.length_replicate, decDigits_length]
theorem nts_ok {k n : Nat} (h : k + nDigits n ≤ 60) : okD (nts k ++ decDigits n) = true := by
  obtain ⟨_, h2, h3⟩ := nts_dec k n
  have := nDigits_pos n
  unfold okD
  rw [h2, h3, decide_eq_true h]
  cases hc : nts k ++ decDigits n with
  | nil => rw [hc] at h3; simp at h3; omega
  | cons _ _ => rfl
def sg (b : Bool) : List UInt8 := if b then [45] else []
theorem sg_pre (b : Bool) (l : List UInt8) (h : l.all isD = true) : hasPrefix (sg b ++ l) [45] = b ∧ trimPrefix (sg b ++ l) [45] = l := by
  cases b with
  | true => exact ⟨by simp [sg, hasPrefix], by simp [sg, trimPrefix, hasPrefix]⟩
  | false =>
    have : hasPrefix l [45] = false := by
      cases l with
      | nil => rfl
      | cons c r =>
        have hc : isD c = true := by simp at h; exact h.1
        have : c ≠ 45 := isD_ne hc (by rfl)
        show ((45 == c) && _) = false
        rw [beq_eq_false_iff_ne.2 (fun e => this e.symm)]; rfl
    exact ⟨this, by simp [sg, trimPrefix, this]⟩
theorem num3_two (b : Bool) {k j a d : Nat} (ha : k + nDigits a ≤ 60) (hd : j + nDigits d ≤ 60) : num3 ((sg b ++ (nts k ++ decDigits a)) ++ 47 :: (nts j ++ decDigits d)) = (mkRat (zn b a) d, ((max (k + nDigits a) (j + nDigits d) : Nat) : Int), if d = 0 then 30 else 0) := by
  obtain ⟨a1, a2, a3⟩ := nts_dec k a
  obtain ⟨d1, d2, d3⟩ := nts_dec j d
  obtain ⟨p1, p2⟩ := sg_pre b _ a2
  have hc : ∀ x ∈ sg b ++ (nts k ++ decDigits a), x ≠ 47 := by
    intro x hx
    rcases List.mem_append.1 hx with h | h
    · cases b <;> simp [sg] at h; rw [h]; decide
    · exact all_ne a2 (by rfl) x h
  unfold num3
  rw [cut_app _ hc, numF_two (by rw [p2]; exact nts_ok ha) (nts_ok hd), p1, p2, a3, d3, pvD, pvD, nts_ok ha, nts_ok hd, if_pos rfl, if_pos rfl, a1, d1]
theorem rat_times {z : Int} {d t : Nat} (ht : t ≠ 0) : mkRat (z * t) (d * t) = mkRat z d := by
  rw [Nat.mul_comm d t, Int.mul_comm z t]; exact Rat.mkRat_mul_left ht
theorem zn_times {num : Int} {t : Nat} : zn (decide (num < 0)) (num.natAbs * t) = num * t := by
  unfold zn
  split
  · rename_i h; have h := of_decide_eq_true h; rw [Int.natCast_mul, show ((num.natAbs : Nat) : Int) = -num by omega, Int.neg_mul, Int.neg_neg]
  · rename_i h; have h := of_decide_eq_false (Bool.eq_false_iff.2 h); rw [Int.natCast_mul, show ((num.natAbs : Nat) : Int) = num by omega]
theorem txtF_nat (n : Nat) : txtF ((n : Int) : Rat) = decDigits n := by
  unfold txtF itxt
  rw [show (((n : Int) : Rat)).num = (n : Int) from rfl, show (((n : Int) : Rat)).den = 1 from rfl, if_neg (by omega), if_pos rfl, List.append_nil]; rfl
end Num
namespace Go.Proofs
open Go Go.Sv Num
variable {G : Imm}
end Go.Proofs
