/- The law LineNumbers, on the facts. -/
import Derived.Test.YtcdlcfihjfhkgaaGreatDoorSsp
namespace Num
open Go Go.Lib
abbrev nts (k : Nat) : List UInt8 := List.replicate k 48
theorem nts_all (k : Nat) : (nts k).all isD = true := by
  rw [List.all_eq_true]; intro c h; rw [List.eq_of_mem_replicate h]; rfl
theorem nts_val (k : Nat) : valD (nts k) = 0 := by
  induction k with
  | zero => rfl
  | succ k ih => rw [nts, List.replicate_succ', valD_snoc, ih]; rfl
theorem nts_dec (k n : Nat) : valD (nts k ++ decDigits n) = n ∧ (nts k ++ decDigits n).all isD = true ∧ (nts k ++ decDigits n).length = k + nDigits n := by
  refine ⟨?_, ?_, ?_⟩
  · rw [valD_append, nts_val, valD_dec]; omega
  · rw [List.all_append, nts_all, dec_all]; rfl
  · rw [List.length_append, List.length_replicate, decDigits_length]
theorem nts_ok {k n : Nat} (h : k + nDigits n ≤ 60) : okD (nts k ++ decDigits n) = true := by
  obtain ⟨_, h2, h3⟩ := nts_dec k n
  have := nDigits_pos n
  unfold okD
  rw [h2, h3, decide_eq_true h]
  cases hc : nts k ++ decDigits n with
  | nil => rw [hc] at h3; simp at h3; omega
  | cons _ _ => rfl
def sg (b : Bool) : List UInt8 := if b then [45] else []
theorem sg_pre (b : Bool) (l : List UInt8) (h : l.all isD = true) : hasPrefix (sg b ++ l) [45] = b ∧ trimPrefix (sg b ++ l) [45] = l := by
  cases b with
  | true => exact ⟨by simp [sg, hasPrefix], by simp [sg, trimPrefix, hasPrefix]⟩
  | false =>
    have : hasPrefix l [45] = false := by
      cases l with
      | nil => rfl
      | cons c r =>
        have hc : isD c = true := by simp at h; exact h.1
        have : c ≠ 45 := isD_ne hc (by rfl)
        show ((45 == c) && _) = false
        rw [beq_eq_false_iff_ne.2 (fun e => this e.symm)]; rfl
    exact ⟨this, by simp [sg, trimPrefix, this]⟩
theorem num3_two (b : Bool) {k j a d : Nat} (ha : k + nDigits a ≤ 60) (hd : j + nDigits d ≤ 60) : num3 ((sg b ++ (nts k ++ decDigits a)) ++ 47 :: (nts j ++ decDigits d)) = (mkRat (zn b a) d, ((max (k + nDigits a) (j + nDigits d) : Nat) : Int), if d = 0 then 30 else 0) := by
  obtain ⟨a1, a2, a3⟩ := nts_dec k a
  obtain ⟨d1, d2, d3⟩ := nts_dec j d
  obtain ⟨p1, p2⟩ := sg_pre b _ a2
  have hc : ∀ x ∈ sg b ++ (nts k ++ decDigits a), x ≠ 47 := by
    intro x hx
    rcases List.mem_append.1 hx with h | h
    · cases b <;> simp [sg] at h; rw [h]; decide
    · exact all_ne a2 (by rfl) x h
  unfold num3
  rw [cut_app _ hc, numF_two (by rw [p2]; exact nts_ok ha) (nts_ok hd), p1, p2, a3, d3, pvD, pvD, nts_ok ha, nts_ok hd, if_pos rfl, if_pos rfl, a1, d1]
theorem rat_times {z : Int} {d t : Nat} (ht : t ≠ 0) : mkRat (z * t) (d * t) = mkRat z d := by
  rw [Nat.mul_comm d t, Int.mul_comm z t]; exact Rat.mkRat_mul_left ht
theorem zn_times {num : Int} {t : Nat} : zn (decide (num < 0)) (num.natAbs * t) = num * t := by
  unfold zn
  split
  · rename_i h; have h := of_decide_eq_true h; rw [Int.natCast_mul, show ((num.natAbs : Nat) : Int) = -num by omega, Int.neg_mul, Int.neg_neg]
  · rename_i h; have h := of_decide_eq_false (Bool.eq_false_iff.2 h); rw [Int.natCast_mul, show ((num.natAbs : Nat) : Int) = num by omega]
theorem txtF_nat (n : Nat) : txtF ((n : Int) : Rat) = decDigits n := by
  unfold txtF itxt
  rw [show (((n : Int) : Rat)).num = (n : Int) from rfl, show (((n : Int) : Rat)).den = 1 from rfl, if_neg (by omega), if_pos rfl, List.append_nil]; rfl
theorem nd10 {n : Nat} (h : n < 10000000000) : nDigits n ≤ 10 := nDigits_le_of_lt (by exact h)
end Num
namespace Go.Proofs
open Go Go.Sv Num
variable {G : Imm}
theorem lineNumbers_spec [Tab G] [Tab10 G] [MaxLen G] {num den noughts times : Int} : PSpec Tryz.prog G 6 [intS .i64 num, intS .u32 den, intS .i64 noughts, intS .i64 times] (boolS true) := by
  refine fn_spec Tryz.func6 rfl rfl rfl ?_
  refine T_regionS ?_
  refine Run.one (ok_assign rfl rfl) rfl rfl rfl ?_
  refine Run.nil ?_
  refine T_seq ?_
  refine T_regionS ?_
  refine Run.one (ok_move rfl rfl) rfl rfl rfl ?_
  refine Run.oneB (ok_cmp rfl rfl rfl rfl) rfl rfl rfl (fun h1_1 => ?_) (fun h1_1 => ?_)
  · have k1_1 := of_decide_eq_true h1_1
    refine Run.one (ok_move rfl rfl) rfl rfl rfl ?_
    refine Run.no (gB rfl rfl rfl rfl) rfl rfl ?_
    refine Run.no (gB rfl rfl rfl rfl) rfl rfl ?_
    refine Run.one (ok_pick rfl rfl rfl) rfl rfl rfl ?_
    refine Run.one (ok_move rfl rfl) rfl rfl rfl ?_
    refine Run.no (gB rfl rfl rfl rfl) rfl rfl ?_
    refine Run.no (gB rfl rfl rfl rfl) rfl rfl ?_
    refine Run.one (ok_pick rfl rfl rfl) rfl rfl rfl ?_
    refine Run.one (ok_move rfl rfl) rfl rfl rfl ?_
    refine Run.no (gB rfl rfl rfl rfl) rfl rfl ?_
    refine Run.no (gB rfl rfl rfl rfl) rfl rfl ?_
    refine Run.one (ok_pick rfl rfl rfl) rfl rfl rfl ?_
    refine Run.one (ok_move rfl rfl) rfl rfl rfl ?_
    refine Run.no (gB rfl rfl rfl rfl) rfl rfl ?_
    refine Run.no (gB rfl rfl rfl rfl) rfl rfl ?_
    refine Run.one (ok_pick rfl rfl rfl) rfl rfl rfl ?_
    refine Run.one (ok_move rfl rfl) rfl rfl rfl ?_
    refine Run.no (gB rfl rfl rfl rfl) rfl rfl ?_
    refine Run.no (gB rfl rfl rfl rfl) rfl rfl ?_
    refine Run.one (ok_pick rfl rfl rfl) rfl rfl rfl ?_
    refine Run.one (ok_move rfl rfl) rfl rfl rfl ?_
    refine Run.no (gB rfl rfl rfl rfl) rfl rfl ?_
    refine Run.no (gB rfl rfl rfl rfl) rfl rfl ?_
    refine Run.one (ok_pick rfl rfl rfl) rfl rfl rfl ?_
    refine Run.one (ok_move rfl rfl) rfl rfl rfl ?_
    refine Run.no (gB rfl rfl rfl rfl) rfl rfl ?_
    refine Run.no (gB rfl rfl rfl rfl) rfl rfl ?_
    refine Run.one (ok_pick rfl rfl rfl) rfl rfl rfl ?_
    refine Run.nil ?_
    refine T_condT rfl rfl ?_
    refine T_regionS ?_
    refine Run.one (ok_call rfl rfl wakes11_spec) rfl rfl rfl ?_
    refine Run.one (ok_assign rfl rfl) rfl rfl rfl ?_
    refine Run.nil ?_
    refine T_ret ?_
    exact ⟨_, [], .one (.tmp rfl), List.nil_sublist _, rfl, rfl⟩
  · have k1_1 := of_decide_eq_false h1_1
    refine Run.one (ok_move rfl rfl) rfl rfl rfl ?_
    refine Run.one (ok_move rfl rfl) (gB rfl rfl rfl rfl) rfl rfl ?_
    refine Run.one (ok_cmp rfl rfl rfl rfl) (gB rfl rfl rfl rfl) rfl rfl ?_
    refine Run.oneB (ok_pick rfl rfl rfl) rfl rfl rfl (fun h1_5 => ?_) (fun h1_5 => ?_)
    · have k1_5 := of_decide_eq_true h1_5
      refine Run.one (ok_move rfl rfl) rfl rfl rfl ?_
      refine Run.no (gB rfl rfl rfl rfl) rfl rfl ?_
      refine Run.no (gB rfl rfl rfl rfl) rfl rfl ?_
      refine Run.one (ok_pick rfl rfl rfl) rfl rfl rfl ?_
      refine Run.one (ok_move rfl rfl) rfl rfl rfl ?_
      refine Run.no (gB rfl rfl rfl rfl) rfl rfl ?_
      refine Run.no (gB rfl rfl rfl rfl) rfl rfl ?_
      refine Run.one (ok_pick rfl rfl rfl) rfl rfl rfl ?_
      refine Run.one (ok_move rfl rfl) rfl rfl rfl ?_
      refine Run.no (gB rfl rfl rfl rfl) rfl rfl ?_
      refine Run.no (gB rfl rfl rfl rfl) rfl rfl ?_
      refine Run.one (ok_pick rfl rfl rfl) rfl rfl rfl ?_
      refine Run.one (ok_move rfl rfl) rfl rfl rfl ?_
      refine Run.no (gB rfl rfl rfl rfl) rfl rfl ?_
      refine Run.no (gB rfl rfl rfl rfl) rfl rfl ?_
      refine Run.one (ok_pick rfl rfl rfl) rfl rfl rfl ?_
      refine Run.one (ok_move rfl rfl) rfl rfl rfl ?_
      refine Run.no (gB rfl rfl rfl rfl) rfl rfl ?_
      refine Run.no (gB rfl rfl rfl rfl) rfl rfl ?_
      refine Run.one (ok_pick rfl rfl rfl) rfl rfl rfl ?_
      refine Run.one (ok_move rfl rfl) rfl rfl rfl ?_
      refine Run.no (gB rfl rfl rfl rfl) rfl rfl ?_
      refine Run.no (gB rfl rfl rfl rfl) rfl rfl ?_
      refine Run.one (ok_pick rfl rfl rfl) rfl rfl rfl ?_
      refine Run.nil ?_
      refine T_condT rfl rfl ?_
      refine T_regionS ?_
      refine Run.one (ok_call rfl rfl wakes11_spec) rfl rfl rfl ?_
      refine Run.one (ok_assign rfl rfl) rfl rfl rfl ?_
      refine Run.nil ?_
      refine T_ret ?_
      exact ⟨_, [], .one (.tmp rfl), List.nil_sublist _, rfl, rfl⟩
    · have k1_5 := of_decide_eq_false h1_5
      refine Run.one (ok_move rfl rfl) rfl rfl rfl ?_
      refine Run.one (ok_move rfl rfl) (gB rfl rfl rfl rfl) rfl rfl ?_
      refine Run.one (ok_cmp rfl rfl rfl rfl) (gB rfl rfl rfl rfl) rfl rfl ?_
      refine Run.oneB (ok_pick rfl rfl rfl) rfl rfl rfl (fun h1_9 => ?_) (fun h1_9 => ?_)
      · have k1_9 := of_decide_eq_true h1_9
        refine Run.one (ok_move rfl rfl) rfl rfl rfl ?_
        refine Run.no (gB rfl rfl rfl rfl) rfl rfl ?_
        refine Run.no (gB rfl rfl rfl rfl) rfl rfl ?_
        refine Run.one (ok_pick rfl rfl rfl) rfl rfl rfl ?_
        refine Run.one (ok_move rfl rfl) rfl rfl rfl ?_
        refine Run.no (gB rfl rfl rfl rfl) rfl rfl ?_
        refine Run.no (gB rfl rfl rfl rfl) rfl rfl ?_
        refine Run.one (ok_pick rfl rfl rfl) rfl rfl rfl ?_
        refine Run.one (ok_move rfl rfl) rfl rfl rfl ?_
        refine Run.no (gB rfl rfl rfl rfl) rfl rfl ?_
        refine Run.no (gB rfl rfl rfl rfl) rfl rfl ?_
        refine Run.one (ok_pick rfl rfl rfl) rfl rfl rfl ?_
        refine Run.one (ok_move rfl rfl) rfl rfl rfl ?_
        refine Run.no (gB rfl rfl rfl rfl) rfl rfl ?_
        refine Run.no (gB rfl rfl rfl rfl) rfl rfl ?_
        refine Run.one (ok_pick rfl rfl rfl) rfl rfl rfl ?_
        refine Run.one (ok_move rfl rfl) rfl rfl rfl ?_
        refine Run.no (gB rfl rfl rfl rfl) rfl rfl ?_
        refine Run.no (gB rfl rfl rfl rfl) rfl rfl ?_
        refine Run.one (ok_pick rfl rfl rfl) rfl rfl rfl ?_
        refine Run.nil ?_
        refine T_condT rfl rfl ?_
        refine T_regionS ?_
        refine Run.one (ok_call rfl rfl wakes11_spec) rfl rfl rfl ?_
        refine Run.one (ok_assign rfl rfl) rfl rfl rfl ?_
        refine Run.nil ?_
        refine T_ret ?_
        exact ⟨_, [], .one (.tmp rfl), List.nil_sublist _, rfl, rfl⟩
      · have k1_9 := of_decide_eq_false h1_9
        refine Run.one (ok_move rfl rfl) rfl rfl rfl ?_
        refine Run.one (ok_move rfl rfl) (gB rfl rfl rfl rfl) rfl rfl ?_
        refine Run.one (ok_cmp rfl rfl rfl rfl) (gB rfl rfl rfl rfl) rfl rfl ?_
        refine Run.oneB (ok_pick rfl rfl rfl) rfl rfl rfl (fun h1_13 => ?_) (fun h1_13 => ?_)
        · have k1_13 := of_decide_eq_true h1_13
          refine Run.one (ok_move rfl rfl) rfl rfl rfl ?_
          refine Run.no (gB rfl rfl rfl rfl) rfl rfl ?_
          refine Run.no (gB rfl rfl rfl rfl) rfl rfl ?_
          refine Run.one (ok_pick rfl rfl rfl) rfl rfl rfl ?_
          refine Run.one (ok_move rfl rfl) rfl rfl rfl ?_
          refine Run.no (gB rfl rfl rfl rfl) rfl rfl ?_
          refine Run.no (gB rfl rfl rfl rfl) rfl rfl ?_
          refine Run.one (ok_pick rfl rfl rfl) rfl rfl rfl ?_
          refine Run.one (ok_move rfl rfl) rfl rfl rfl ?_
          refine Run.no (gB rfl rfl rfl rfl) rfl rfl ?_
          refine Run.no (gB rfl rfl rfl rfl) rfl rfl ?_
          refine Run.one (ok_pick rfl rfl rfl) rfl rfl rfl ?_
          refine Run.one (ok_move rfl rfl) rfl rfl rfl ?_
          refine Run.no (gB rfl rfl rfl rfl) rfl rfl ?_
          refine Run.no (gB rfl rfl rfl rfl) rfl rfl ?_
          refine Run.one (ok_pick rfl rfl rfl) rfl rfl rfl ?_
          refine Run.nil ?_
          refine T_condT rfl rfl ?_
          refine T_regionS ?_
          refine Run.one (ok_call rfl rfl wakes11_spec) rfl rfl rfl ?_
          refine Run.one (ok_assign rfl rfl) rfl rfl rfl ?_
          refine Run.nil ?_
          refine T_ret ?_
          exact ⟨_, [], .one (.tmp rfl), List.nil_sublist _, rfl, rfl⟩
        · have k1_13 := of_decide_eq_false h1_13
          refine Run.one (ok_move rfl rfl) rfl rfl rfl ?_
          refine Run.one (ok_move rfl rfl) (gB rfl rfl rfl rfl) rfl rfl ?_
          refine Run.one (ok_cmp rfl rfl rfl rfl) (gB rfl rfl rfl rfl) rfl rfl ?_
          refine Run.oneB (ok_pick rfl rfl rfl) rfl rfl rfl (fun h1_17 => ?_) (fun h1_17 => ?_)
          · have k1_17 := of_decide_eq_true h1_17
            refine Run.one (ok_move rfl rfl) rfl rfl rfl ?_
            refine Run.no (gB rfl rfl rfl rfl) rfl rfl ?_
            refine Run.no (gB rfl rfl rfl rfl) rfl rfl ?_
            refine Run.one (ok_pick rfl rfl rfl) rfl rfl rfl ?_
            refine Run.one (ok_move rfl rfl) rfl rfl rfl ?_
            refine Run.no (gB rfl rfl rfl rfl) rfl rfl ?_
            refine Run.no (gB rfl rfl rfl rfl) rfl rfl ?_
            refine Run.one (ok_pick rfl rfl rfl) rfl rfl rfl ?_
            refine Run.one (ok_move rfl rfl) rfl rfl rfl ?_
            refine Run.no (gB rfl rfl rfl rfl) rfl rfl ?_
            refine Run.no (gB rfl rfl rfl rfl) rfl rfl ?_
            refine Run.one (ok_pick rfl rfl rfl) rfl rfl rfl ?_
            refine Run.nil ?_
            refine T_condT rfl rfl ?_
            refine T_regionS ?_
            refine Run.one (ok_call rfl rfl wakes11_spec) rfl rfl rfl ?_
            refine Run.one (ok_assign rfl rfl) rfl rfl rfl ?_
            refine Run.nil ?_
            refine T_ret ?_
            exact ⟨_, [], .one (.tmp rfl), List.nil_sublist _, rfl, rfl⟩
          · have k1_17 := of_decide_eq_false h1_17
            refine Run.one (ok_move rfl rfl) rfl rfl rfl ?_
            refine Run.one (ok_move rfl rfl) (gB rfl rfl rfl rfl) rfl rfl ?_
            refine Run.one (ok_cmp rfl rfl rfl rfl) (gB rfl rfl rfl rfl) rfl rfl ?_
            refine Run.oneB (ok_pick rfl rfl rfl) rfl rfl rfl (fun h1_21 => ?_) (fun h1_21 => ?_)
            · have k1_21 := of_decide_eq_true h1_21
              refine Run.one (ok_move rfl rfl) rfl rfl rfl ?_
              refine Run.no (gB rfl rfl rfl rfl) rfl rfl ?_
              refine Run.no (gB rfl rfl rfl rfl) rfl rfl ?_
              refine Run.one (ok_pick rfl rfl rfl) rfl rfl rfl ?_
              refine Run.one (ok_move rfl rfl) rfl rfl rfl ?_
              refine Run.no (gB rfl rfl rfl rfl) rfl rfl ?_
              refine Run.no (gB rfl rfl rfl rfl) rfl rfl ?_
              refine Run.one (ok_pick rfl rfl rfl) rfl rfl rfl ?_
              refine Run.nil ?_
              refine T_condT rfl rfl ?_
              refine T_regionS ?_
              refine Run.one (ok_call rfl rfl wakes11_spec) rfl rfl rfl ?_
              refine Run.one (ok_assign rfl rfl) rfl rfl rfl ?_
              refine Run.nil ?_
              refine T_ret ?_
              exact ⟨_, [], .one (.tmp rfl), List.nil_sublist _, rfl, rfl⟩
            · have k1_21 := of_decide_eq_false h1_21
              refine Run.one (ok_move rfl rfl) rfl rfl rfl ?_
              refine Run.one (ok_move rfl rfl) (gB rfl rfl rfl rfl) rfl rfl ?_
              refine Run.one (ok_cmp rfl rfl rfl rfl) (gB rfl rfl rfl rfl) rfl rfl ?_
              refine Run.oneB (ok_pick rfl rfl rfl) rfl rfl rfl (fun h1_25 => ?_) (fun h1_25 => ?_)
              · have k1_25 := of_decide_eq_true h1_25
                refine Run.one (ok_move rfl rfl) rfl rfl rfl ?_
                refine Run.no (gB rfl rfl rfl rfl) rfl rfl ?_
                refine Run.no (gB rfl rfl rfl rfl) rfl rfl ?_
                refine Run.one (ok_pick rfl rfl rfl) rfl rfl rfl ?_
                refine Run.nil ?_
                refine T_condT rfl rfl ?_
                refine T_regionS ?_
                refine Run.one (ok_call rfl rfl wakes11_spec) rfl rfl rfl ?_
                refine Run.one (ok_assign rfl rfl) rfl rfl rfl ?_
                refine Run.nil ?_
                refine T_ret ?_
                exact ⟨_, [], .one (.tmp rfl), List.nil_sublist _, rfl, rfl⟩
              · have k1_25 := of_decide_eq_false h1_25
                refine Run.one (ok_move rfl rfl) rfl rfl rfl ?_
                refine Run.one (ok_move rfl rfl) (gB rfl rfl rfl rfl) rfl rfl ?_
                refine Run.one (ok_cmp rfl rfl rfl rfl) (gB rfl rfl rfl rfl) rfl rfl ?_
                refine Run.one (ok_pick rfl rfl rfl) rfl rfl rfl ?_
                refine Run.nil ?_
                refine T_cond rfl rfl (fun h55 => ?_) (fun h55 => ?_)
                · have k55 := of_decide_eq_true h55
                  refine T_regionS ?_
                  refine Run.one (ok_call rfl rfl wakes11_spec) rfl rfl rfl ?_
                  refine Run.one (ok_assign rfl rfl) rfl rfl rfl ?_
                  refine Run.nil ?_
                  refine T_ret ?_
                  exact ⟨_, [], .one (.tmp rfl), List.nil_sublist _, rfl, rfl⟩
                · have k55 := of_decide_eq_false h55
                  obtain ⟨d, rfl⟩ : ∃ d : Nat, den = d := ⟨den.toNat, by omega⟩
                  obtain ⟨z, rfl⟩ : ∃ z : Nat, noughts = z := ⟨noughts.toNat, by omega⟩
                  obtain ⟨t, rfl⟩ : ∃ t : Nat, times = t := ⟨times.toNat, by omega⟩
                  have hnt : num.natAbs * t ≤ 1048576 * 1000 := Nat.mul_le_mul (by omega) (by omega)
                  have hdt : d * t ≤ 1048576 * 1000 := Nat.mul_le_mul (by omega) (by omega)
                  have hd0 : d * t ≠ 0 := Nat.mul_ne_zero (by omega) (by omega)
                  have hz := zn_times (num := num) (t := t)
                  have hr := rat_times (z := num) (d := d) (t := t) (by omega)
                  have hcst : ((num.natAbs : Nat) : Int) * (t : Int) = ((num.natAbs * t : Nat) : Int) := (Int.natCast_mul _ _).symm
                  have hcst2 : ((d : Nat) : Int) * (t : Int) = ((d * t : Nat) : Int) := (Int.natCast_mul _ _).symm
                  obtain ⟨A, hA⟩ : ∃ A, A = num.natAbs * t := ⟨_, rfl⟩
                  obtain ⟨D, hD⟩ : ∃ D, D = d * t := ⟨_, rfl⟩
                  rw [← hA] at hnt hz hcst
                  rw [← hD] at hdt hd0 hr hcst2
                  have nA := nd10 (n := A) (by omega)
                  have nD := nd10 (n := D) (by omega)
                  have n0 : Lib.nDigits 0 = 1 := Lib.nDigits_small (by decide)
                  have lA : (Lib.decDigits A).length = Lib.nDigits A := Lib.decDigits_length A
                  have l0 : (Lib.decDigits 0).length = 1 := by rw [Lib.decDigits_length]; exact n0
                  have lD : (Lib.decDigits D).length = Lib.nDigits D := Lib.decDigits_length D
                  have hn1 := num3_two (decide (num < 0)) (k := z) (j := z) (a := A) (d := D) (by omega) (by omega)
                  rw [hz, hr, if_neg hd0] at hn1
                  have hn2 := num3_two (decide (num < 0)) (k := 0) (j := z) (a := A) (d := 0) (by omega) (by omega)
                  rw [if_pos rfl] at hn2
                  have hn3 := num3_two true (k := z) (j := 0) (a := 0) (d := D) (by omega) (by omega)
                  rw [if_neg hd0, show mkRat (zn true 0) D = 0 by show mkRat 0 D = 0; exact Rat.zero_mkRat D] at hn3
                  have hst : (sg true).length = 1 := rfl
                  have hsl : (sg (decide (num < 0))).length ≤ 1 := by cases decide (num < 0) <;> decide
                  haveI bA : Bq ((A : Int) : Rat) 1 := ⟨show ((A : Int)).natAbs < 4294967296 ^ 1 by omega, show 1 < 4294967296 ^ 1 by decide⟩
                  haveI bD : Bq ((D : Int) : Rat) 1 := ⟨show ((D : Int)).natAbs < 4294967296 ^ 1 by omega, show 1 < 4294967296 ^ 1 by decide⟩
                  haveI iD : IsQ false (dig D) [1] ((D : Int) : Rat) 1 := ⟨lim_dig D, lim_cons (by decide) lim_nil, by rw [val_dig]; exact Rat.mkRat_one _, dig_length_le (by omega), by decide, by decide⟩
                  haveI bn : Bz num 1 := ⟨by omega⟩
                  haveI iN : IsNat [d] d := ⟨lim_cons (by omega) lim_nil, by simp [val]⟩
                  have htr : tri (0 : Rat) 0 = 0 := tri_eq.2 rfl
                  have hsgn := rqSign_spec (G := G) (b := decide ((0 : Rat).num < 0)) (l := dig (0 : Rat).num.natAbs) (d := dig (0 : Rat).den) (q := 0) (k := 1) (by decide)
                  rw [htr] at hsgn
                  refine T_skip ?_
                  refine T_regionS ?_
                  refine Run.one (ok_assign rfl rfl) rfl rfl rfl ?_
                  refine Run.nil ?_
                  refine T_seq ?_
                  refine T_regionS ?_
                  refine Run.one (ok_assign rfl rfl) rfl rfl rfl ?_
                  refine Run.nil ?_
                  refine T_block ?_
                  refine T_loop (γ := Nat) (fun i => ⟨_, [(10, intS .i64 i), (9, strS (nts i)), (3, intS .i64 t), (2, intS .i64 z), (1, intS .u32 d), (0, intS .i64 num)], [], [], (0, false)⟩) (fun i => i ≤ z) (fun i => z - i) 0 (Nat.zero_le _) (ent_g (subG_cons rfl (subG_cons rfl (subG_cons rfl (subG_cons rfl (subG_cons rfl (subG_cons rfl (trivial)))))))) ?_
                  intro i hi
                  refine T_seq ?_
                  refine T_regionS ?_
                  refine Run.one (ok_move rfl rfl) rfl rfl rfl ?_
                  refine Run.one (ok_move rfl rfl) rfl rfl rfl ?_
                  refine Run.one (ok_cmp rfl rfl rfl rfl) rfl rfl rfl ?_
                  refine Run.nil ?_
                  refine T_cond rfl rfl (fun h59 => ?_) (fun h59 => ?_)
                  · have k59 := of_decide_eq_true h59
                    refine T_skip ?_
                    refine T_seq ?_
                    refine T_block ?_
                    refine T_region ?_
                    refine Run.one (ok_move rfl rfl) rfl rfl rfl ?_
                    refine Run.one (ok_add_str rfl rfl rfl (by simp; omega)) rfl rfl rfl ?_
                    refine Run.one (ok_assign rfl rfl) rfl rfl rfl ?_
                    refine Run.nil ?_
                    refine T_region ?_
                    refine Run.one (ok_move rfl rfl) rfl rfl rfl ?_
                    refine Run.one (ok_ari rfl rfl rfl rfl (wrap_i64 (by omega) (by omega))) rfl rfl rfl ?_
                    refine Run.one (ok_assign rfl rfl) rfl rfl rfl ?_
                    refine Run.nil ?_
                    exact ⟨i + 1, by omega, by omega, ent_g (subG_cons rfl (subG_as rfl (by rw [nts, nts, ← List.replicate_succ']) (subG_cons rfl (subG_cons rfl (subG_cons rfl (subG_cons rfl (trivial)))))))⟩
                  · have k59 := of_decide_eq_false h59
                    obtain rfl : i = z := by omega
                    refine T_exit ?_
                    refine T_regionS ?_
                    refine Run.one (ok_move rfl rfl) rfl rfl rfl ?_
                    refine Run.one (ok_call rfl rfl (rzOf_spec (n := num) (by omega) (by omega))) rfl rfl rfl ?_
                    refine Run.one (ok_move rfl rfl) rfl rfl rfl ?_
                    refine Run.one (ok_buildSlice rfl rfl (by decide) rfl (by simp) rfl rfl) rfl rfl rfl ?_
                    refine Run.one (ok_call rfl rfl ((rnew_spec (z := num) (n := d) (d := [d]) (k := 1) (j := 1) (by decide)).args ⟨fun I v h => h, fun I v h => natLit (l := [d]) I v h, trivial⟩)) rfl rfl rfl ?_
                    refine Run.one (ok_move rfl rfl) rfl rfl rfl ?_
                    refine Run.one (ok_extract rfl rfl rfl) rfl rfl rfl ?_
                    refine Run.one (ok_extract rfl rfl rfl) rfl rfl rfl ?_
                    refine Run.alloc rfl rfl rfl rfl rfl fun b11 => ?_
                    refine Run.store 0 rfl rfl rfl rfl rfl rfl rfl rfl rfl ?_
                    refine Run.one (ok_assign rfl rfl) rfl rfl rfl ?_
                    refine Run.nil ?_
                    refine T_regionS ?_
                    refine Run.one (ok_move rfl rfl) rfl rfl rfl ?_
                    refine Run.one (ok_assign rfl rfl) rfl rfl rfl ?_
                    refine Run.one (ok_assign rfl rfl) rfl rfl rfl ?_
                    refine Run.nil ?_
                    refine T_seqQ (K := fun S1 => Ent S1 (⟨168, [(14, intS .i64 (num.natAbs : Nat)), (13, strS (sg (decide (num < 0)))), (11, eqS (.pointer (some ⟨b11, 0, none⟩))), (9, strS (nts i)), (3, intS .i64 t), (2, intS .i64 i), (1, intS .u32 d)], [⟨some b11, 27, canQ (mkRat num d), 0⟩], [], (0, false)⟩)) ?_ ?_
                    · refine T_regionS ?_
                      refine Run.one (ok_move rfl rfl) rfl rfl rfl ?_
                      refine Run.one (ok_cmp rfl rfl rfl rfl) rfl rfl rfl ?_
                      refine Run.nil ?_
                      refine T_cond rfl rfl (fun h74 => ?_) (fun h74 => ?_)
                      · have k74 := of_decide_eq_true h74
                        refine T_region ?_
                        refine Run.one (ok_move rfl rfl) rfl rfl rfl ?_
                        refine Run.one ((ok_neg rfl rfl).sub (int_eq (n := ((num.natAbs : Nat) : Int)) (by rw [wrap_i64 (by omega) (by omega)]; omega))) rfl rfl rfl ?_
                        refine Run.one (ok_assign rfl rfl) rfl rfl rfl ?_
                        refine Run.one (ok_assign rfl rfl) rfl rfl rfl ?_
                        refine Run.nil ?_
                        exact ent_h (subG_cons rfl (subG_as rfl (by rw [show decide (num < 0) = true from h74]; rfl) (subG_cons rfl (subG_cons rfl (subG_cons rfl (subG_cons rfl (subG_cons rfl (trivial)))))))) rfl
                      · have k74 := of_decide_eq_false h74
                        refine T_skip ?_
                        exact ent_h (subG_as rfl (by rw [show ((num.natAbs : Nat) : Int) = num by omega]) (subG_as rfl (by rw [show decide (num < 0) = false from h74]; rfl) (subG_cons rfl (subG_cons rfl (subG_cons rfl (subG_cons rfl (subG_cons rfl (trivial)))))))) rfl
                    · intro S1 hS1
                      refine T_pre hS1 ?_
                      refine T_regionS ?_
                      refine Run.one (ok_move rfl rfl) rfl rfl rfl ?_
                      refine Run.one (ok_move rfl rfl) rfl rfl rfl ?_
                      refine Run.one (ok_ari (z := ((A : Nat) : Int)) rfl rfl rfl (congrArg some hcst) (wrap_i64 (by omega) (by omega))) rfl rfl rfl ?_
                      refine Run.one (ok_call rfl rfl (rqOf_spec (n := (A : Int)) (q := ((A : Int) : Rat)) (by omega) (by omega))) rfl rfl rfl ?_
                      refine Run.one ((ok_call rfl rfl (rltext_spec (q := ((A : Int) : Rat)) (k := 1) (by decide))).sub (str_eq (txtF_nat A))) rfl rfl rfl ?_
                      refine Run.one (ok_assign rfl rfl) rfl rfl rfl ?_
                      refine Run.nil ?_
                      refine T_regionS ?_
                      refine Run.one (ok_move rfl rfl) rfl rfl rfl ?_
                      refine Run.one (ok_conv rfl rfl (wrap_u64 (by omega) (by omega))) rfl rfl rfl ?_
                      refine Run.one (ok_move rfl rfl) rfl rfl rfl ?_
                      refine Run.one (ok_conv rfl rfl (wrap_u64 (by omega) (by omega))) rfl rfl rfl ?_
                      refine Run.one (ok_ari (z := ((D : Nat) : Int)) rfl rfl rfl (congrArg some hcst2) (wrap_u64 (by omega) (by omega))) rfl rfl rfl ?_
                      refine Run.one (ok_call rfl rfl (rof_spec (n := D) (by omega))) rfl rfl rfl ?_
                      refine Run.one (ok_build rfl rfl rfl) rfl rfl rfl ?_
                      refine Run.one (ok_buildSlice rfl rfl (by decide) rfl (by simp) rfl rfl) rfl rfl rfl ?_
                      refine Run.one ((ok_build rfl rfl rfl).sub (agg_lit (b := false) (m := dig D) (d := 1))) rfl rfl rfl ?_
                      refine Run.one ((ok_call rfl rfl (rltext_spec (b := false) (l := dig D) (d := [1]) (q := ((D : Int) : Rat)) (k := 1) (by decide))).sub (str_eq (txtF_nat D))) rfl rfl rfl ?_
                      refine Run.one (ok_assign rfl rfl) rfl rfl rfl ?_
                      refine Run.nil ?_
                      refine T_regionS ?_
                      refine Run.one (ok_move rfl rfl) rfl rfl rfl ?_
                      refine Run.one (ok_move rfl rfl) rfl rfl rfl ?_
                      refine Run.one (ok_add_str rfl rfl rfl (by simp; omega)) rfl rfl rfl ?_
                      refine Run.one (ok_move rfl rfl) rfl rfl rfl ?_
                      refine Run.one (ok_add_str rfl rfl rfl (by simp; omega)) rfl rfl rfl ?_
                      refine Run.one (ok_add_str rfl rfl rfl (by simp; omega)) rfl rfl rfl ?_
                      refine Run.one (ok_move rfl rfl) rfl rfl rfl ?_
                      refine Run.one (ok_add_str rfl rfl rfl (by simp; omega)) rfl rfl rfl ?_
                      refine Run.one (ok_move rfl rfl) rfl rfl rfl ?_
                      refine Run.one ((ok_add_str rfl rfl rfl (by simp; omega)).sub (str_eq (m := (sg (decide (num < 0)) ++ (nts i ++ Lib.decDigits A)) ++ 47 :: (nts i ++ Lib.decDigits D)) (by simp))) rfl rfl rfl ?_
                      refine Run.one (ok_call rfl rfl (hn1 ▸ number_spec (by simp; omega))) rfl rfl rfl ?_
                      refine Run.one (ok_move rfl rfl) rfl rfl rfl ?_
                      refine Run.one (ok_extract rfl rfl rfl) rfl rfl rfl ?_
                      refine Run.one (ok_extract rfl rfl rfl) rfl rfl rfl ?_
                      refine Run.one (ok_extract rfl rfl rfl) rfl rfl rfl ?_
                      refine Run.alloc rfl rfl rfl rfl rfl fun b17 => ?_
                      refine Run.store 0 rfl rfl rfl rfl rfl rfl rfl rfl rfl ?_
                      refine Run.one (ok_assign rfl rfl) rfl rfl rfl ?_
                      refine Run.one (ok_assign rfl rfl) rfl rfl rfl ?_
                      refine Run.nil ?_
                      refine T_regionS ?_
                      refine Run.one (ok_move rfl rfl) rfl rfl rfl ?_
                      refine Run.one (ok_move rfl rfl) rfl rfl rfl ?_
                      refine Run.one (ok_add_str rfl rfl rfl (by omega)) rfl rfl rfl ?_
                      refine Run.one (ok_add_str rfl rfl rfl (by rw [List.length_append, lA]; simp only [List.length_cons, List.length_nil]; omega)) rfl rfl rfl ?_
                      refine Run.one (ok_move rfl rfl) rfl rfl rfl ?_
                      refine Run.one ((ok_add_str rfl rfl rfl (by simp; omega)).sub (str_eq (m := (sg (decide (num < 0)) ++ (nts 0 ++ Lib.decDigits A)) ++ 47 :: (nts i ++ Lib.decDigits 0)) (by rw [dec_zero, show nts i ++ [48] = 48 :: nts i by rw [nts, ← List.replicate_succ', List.replicate_succ]]; simp))) rfl rfl rfl ?_
                      refine Run.one (ok_call rfl rfl (hn2 ▸ number_spec (by simp; omega))) rfl rfl rfl ?_
                      refine Run.one (ok_move rfl rfl) rfl rfl rfl ?_
                      refine Run.one (ok_extract rfl rfl rfl) rfl rfl rfl ?_
                      refine Run.one (ok_extract rfl rfl rfl) rfl rfl rfl ?_
                      refine Run.one (ok_extract rfl rfl rfl) rfl rfl rfl ?_
                      refine Run.alloc rfl rfl rfl rfl rfl fun b20 => ?_
                      refine Run.store 0 rfl rfl rfl rfl rfl rfl rfl rfl rfl ?_
                      refine Run.one (ok_assign rfl rfl) rfl rfl rfl ?_
                      refine Run.one (ok_assign rfl rfl) rfl rfl rfl ?_
                      refine Run.nil ?_
                      refine T_regionS ?_
                      refine Run.one (ok_move rfl rfl) rfl rfl rfl ?_
                      refine Run.one (ok_add_str rfl rfl rfl (by simp; omega)) rfl rfl rfl ?_
                      refine Run.one (ok_add_str rfl rfl rfl (by simp; omega)) rfl rfl rfl ?_
                      refine Run.one (ok_move rfl rfl) rfl rfl rfl ?_
                      refine Run.one ((ok_add_str rfl rfl rfl (by simp; omega)).sub (str_eq (m := (sg true ++ (nts i ++ Lib.decDigits 0)) ++ 47 :: (nts 0 ++ Lib.decDigits D)) (by rw [dec_zero]; simp [sg]))) rfl rfl rfl ?_
                      refine Run.one (ok_call rfl rfl (hn3 ▸ number_spec (by simp; omega))) rfl rfl rfl ?_
                      refine Run.one (ok_move rfl rfl) rfl rfl rfl ?_
                      refine Run.one (ok_extract rfl rfl rfl) rfl rfl rfl ?_
                      refine Run.one (ok_extract rfl rfl rfl) rfl rfl rfl ?_
                      refine Run.one (ok_extract rfl rfl rfl) rfl rfl rfl ?_
                      refine Run.alloc rfl rfl rfl rfl rfl fun b23 => ?_
                      refine Run.store 0 rfl rfl rfl rfl rfl rfl rfl rfl rfl ?_
                      refine Run.one (ok_assign rfl rfl) rfl rfl rfl ?_
                      refine Run.one (ok_assign rfl rfl) rfl rfl rfl ?_
                      refine Run.nil ?_
                      refine T_regionS ?_
                      refine Run.one (ok_move rfl rfl) rfl rfl rfl ?_
                      refine Run.one ((ok_cmp rfl rfl rfl rfl).sub (bool_eq (c := true) (rfl))) rfl rfl rfl ?_
                      refine Run.one (ok_move rfl rfl) rfl rfl rfl ?_
                      refine Run.one (ok_load_own_agg 2 rfl rfl rfl rfl rfl) (gB rfl rfl rfl rfl) rfl rfl ?_
                      refine Run.one (ok_load_own_agg 3 rfl rfl rfl rfl rfl) (gB rfl rfl rfl rfl) rfl rfl ?_
                      refine Run.one ((ok_call rfl rfl toldq_spec).sub (bool_eq (c := true) (by simp))) (gB rfl rfl rfl rfl) rfl rfl ?_
                      refine Run.one (ok_pick rfl rfl rfl) rfl rfl rfl ?_
                      refine Run.one (ok_move rfl rfl) rfl rfl rfl ?_
                      refine Run.one (ok_move rfl rfl) (gB rfl rfl rfl rfl) rfl rfl ?_
                      refine Run.one (ok_move rfl rfl) (gB rfl rfl rfl rfl) rfl rfl ?_
                      refine Run.one (ok_move rfl rfl) (gB rfl rfl rfl rfl) rfl rfl ?_
                      refine Run.one (ok_len_str rfl rfl) (gB rfl rfl rfl rfl) rfl rfl ?_
                      refine Run.one (ok_move rfl rfl) (gB rfl rfl rfl rfl) rfl rfl ?_
                      refine Run.one (ok_len_str rfl rfl) (gB rfl rfl rfl rfl) rfl rfl ?_
                      refine Run.one (ok_max rfl rfl rfl) (gB rfl rfl rfl rfl) rfl rfl ?_
                      refine Run.one (ok_ari rfl rfl rfl rfl (wrap_i64 (by omega) (by omega))) (gB rfl rfl rfl rfl) rfl rfl ?_
                      refine Run.one ((ok_cmp rfl rfl rfl rfl).sub (bool_eq (c := true) (beq_iff_eq.2 (show ((max (i + Lib.nDigits A) (i + Lib.nDigits D) : Nat) : Int) = _ by omega)))) (gB rfl rfl rfl rfl) rfl rfl ?_
                      refine Run.one (ok_pick rfl rfl rfl) rfl rfl rfl ?_
                      refine Run.one (ok_move rfl rfl) rfl rfl rfl ?_
                      refine Run.one (ok_move rfl rfl) (gB rfl rfl rfl rfl) rfl rfl ?_
                      refine Run.one ((ok_cmp rfl rfl rfl rfl).sub (bool_eq (c := true) (rfl))) (gB rfl rfl rfl rfl) rfl rfl ?_
                      refine Run.one (ok_pick rfl rfl rfl) rfl rfl rfl ?_
                      refine Run.one (ok_move rfl rfl) rfl rfl rfl ?_
                      refine Run.one (ok_move rfl rfl) (gB rfl rfl rfl rfl) rfl rfl ?_
                      refine Run.one ((ok_cmp rfl rfl rfl rfl).sub (bool_eq (c := true) (rfl))) (gB rfl rfl rfl rfl) rfl rfl ?_
                      refine Run.one (ok_pick rfl rfl rfl) rfl rfl rfl ?_
                      refine Run.one (ok_move rfl rfl) rfl rfl rfl ?_
                      refine Run.one (ok_load_own_agg 0 rfl rfl rfl rfl rfl) (gB rfl rfl rfl rfl) rfl rfl ?_
                      refine Run.one (ok_call rfl rfl hsgn) (gB rfl rfl rfl rfl) rfl rfl ?_
                      refine Run.one ((ok_cmp rfl rfl rfl rfl).sub (bool_eq (c := true) (rfl))) (gB rfl rfl rfl rfl) rfl rfl ?_
                      refine Run.one (ok_pick rfl rfl rfl) rfl rfl rfl ?_
                      refine Run.one (ok_move rfl rfl) rfl rfl rfl ?_
                      refine Run.one (ok_fieldAddr_eq rfl rfl rfl) (gB rfl rfl rfl rfl) rfl rfl ?_
                      refine Run.one (ok_fieldAddr_eq rfl rfl rfl) (gB rfl rfl rfl rfl) rfl rfl ?_
                      refine Run.one (ok_load_own 0 rfl rfl rfl rfl) (gB rfl rfl rfl rfl) rfl rfl ?_
                      refine Run.one ((ok_not rfl rfl).sub (bool_eq (c := true) rfl)) (gB rfl rfl rfl rfl) rfl rfl ?_
                      refine Run.one (ok_pick rfl rfl rfl) rfl rfl rfl ?_
                      refine Run.one (ok_move rfl rfl) rfl rfl rfl ?_
                      refine Run.one (ok_call rfl rfl wakes11_spec) (gB rfl rfl rfl rfl) rfl rfl ?_
                      refine Run.one (ok_pick rfl rfl rfl) rfl rfl rfl ?_
                      refine Run.one (ok_assign rfl rfl) rfl rfl rfl ?_
                      refine Run.nil ?_
                      refine T_ret ?_
                      exact ⟨_, [], .one (.tmp rfl), List.nil_sublist _, rfl, rfl⟩
end Go.Proofs
