/- straitref11.Text; what the document says of lines; LineBack, on the facts. -/
import Derived.Test.YtofplgefmjojjaaGreatDoorSsm
import Derived.Test.YtofplgefmjojjaaGreatDoorSn2
namespace Go.Proofs
open Go Go.Sv Num
variable {G : Imm}
theorem sign_zero {x y : Int} : ((x - y).sign == 0) = decide (x = y) := by
 by_cases h : x = y
 ·subst h; rw [decide_eq_true rfl, Int.sub_self]; rfl
 ·rw [decide_eq_false h]
  exact beq_eq_false_iff_ne.2 fun e => h (by have := Int.sign_eq_zero_iff_zero.1 e; omega)
theorem sgn_abs (b : Bool) (n : Nat) : (sgn b n).natAbs = n := by unfold sgn; split <;> omega
theorem bz_diff {x y : Int} {k j : Nat} (h1 : x.natAbs < 4294967296 ^ k) (h2 : y.natAbs < 4294967296 ^ j) : (x - y).natAbs < 4294967296 ^ (k + j + 1) := by
 have a1 : 4294967296 ^ k ≤ 4294967296 ^ (k + j) := Nat.pow_le_pow_right (by decide) (by omega)
 have a2 : 4294967296 ^ j ≤ 4294967296 ^ (k + j) := Nat.pow_le_pow_right (by decide) (by omega)
 rw [Nat.pow_succ]
 generalize 4294967296 ^ (k + j) = p at *
 generalize 4294967296 ^ k = p1 at *
 generalize 4294967296 ^ j = p2 at *
 omega
theorem rzcmp_spec {b c : Bool} {l m : List Nat} {x y : Int} {k j : Nat} [hx : IsZ b l x k] [hy : IsZ c m y j] (hs : k + j + 1100 ≤ cap := by decide) : PSpec Tryz.prog G 205 [aggS [boolS b, natS l], aggS [boolS c, natS m]] (intS .i64 (x - y).sign) := by
 have h1 : Bz x k := ⟨by rw [← hx.val, sgn_abs]; exact Nat.lt_of_lt_of_le (val_lt hx.lim) (Nat.pow_le_pow_right (by decide) hx.len)⟩
 have h2 : Bz y j := ⟨by rw [← hy.val, sgn_abs]; exact Nat.lt_of_lt_of_le (val_lt hy.lim) (Nat.pow_le_pow_right (by decide) hy.len)⟩
 have h3 : Bz (x - y) (k + j + 1) := ⟨bz_diff h1.h h2.h⟩
 refine fn_spec Tryz.func205 rfl rfl rfl ?_
 refine T_regionS ?_
 iterate 3 refine zz ?_
 refine zx ?_
 iterate 2 refine zz ?_
 refine zf (rzsub_spec hs) ?_
 refine zo (ok_call rfl rfl (rzSign_spec (k := k + j + 1) (by omega))) ?_
 refine zz ?_
 refine Run.nil ?_
 refine T_ret ?_
 exact ⟨_, [], .one (.tmp rfl), List.nil_sublist _, rfl, rfl⟩
theorem rzsame_spec {b c : Bool} {l m : List Nat} {x y : Int} {k j : Nat} [hx : IsZ b l x k] [hy : IsZ c m y j] (hs : k + j + 1100 ≤ cap := by decide) : PSpec Tryz.prog G 170 [aggS [boolS b, natS l], aggS [boolS c, natS m]] (boolS (decide (x = y))) := by
 refine fn_spec Tryz.func170 rfl rfl rfl ?_
 refine T_regionS ?_
 iterate 3 refine zz ?_
 refine zx ?_
 iterate 2 refine zz ?_
 refine zf (rzcmp_spec hs) ?_
 refine zo ((ok_cmp rfl rfl rfl rfl).sub (bool_eq sign_zero)) ?_
 refine zz ?_
 refine Run.nil ?_
 refine T_ret ?_
 exact ⟨_, [], .one (.tmp rfl), List.nil_sublist _, rfl, rfl⟩
theorem rltext_spec {b : Bool} {l d : List Nat} {q : Rat} {k : Nat} [h : IsQ b l d q k] [hq : Bq q k] (hs : 64 * k + 20000 ≤ 65536) : PSpec Tryz.prog G 128 [aggS [boolS b, natS l, natS d]] (strS (txtF q)) := by
 have i1 : Bd q.num.natAbs k := ⟨hq.num⟩
 have i2 : Bd q.den k := ⟨hq.den⟩
 have hd := dec_le hq.den (by omega)
 have hi := itxt_le hq.num (by omega)
 have i3 : IsZ false (dig q.den) (q.den : Int) k := ⟨lim_dig _, by rw [val_dig, sgn_false], dig_length_le hq.den⟩
 refine fn_spec Tryz.func128 rfl rfl rfl ?_
 refine T_regionS ?_
 refine Run.box rfl rfl rfl rfl rfl rfl fun b1 => ?_
 refine zz ?_
 refine zx ?_
 refine zz ?_
 refine zf (rqNorm_spec hs) ?_
 refine zw ?_
 refine zx ?_
 iterate 2 refine zz ?_
 refine zo ((ok_call rfl rfl (ritext_spec (k := k) (by omega))).sub (str_eq (idec_itxt q.num))) ?_
 refine zz ?_
 refine Run.nil ?_
 refine T_seq ?_
 refine T_drawS 5 (by kernel_rfl) ?_
 iterate 3 refine zz ?_
 refine zo (ok_call rfl rfl (rzOf_spec (n := 1) (by decide) (by decide))) ?_
 refine zo ((ok_call rfl rfl (rzsame_spec (y := 1) (j := 1) (by unfold cap; omega))).sub (bool_eq (c := decide (q.den = 1)) (decide_eq_decide.2 (by omega)))) ?_
 iterate 2 refine Run.nil ?_
 refine T_cond rfl rfl (fun h13 => ?_) (fun h13 => ?_)
 ·have hd1 : q.den = 1 := of_decide_eq_true h13
  refine T_regionS ?_
  iterate 2 refine zz ?_
  refine Run.nil ?_
  refine T_ret ?_
  exact ⟨_, [], .one (.tmp rfl), List.nil_sublist _, by unfold txtF; rw [if_pos hd1, List.append_nil], rfl⟩
 ·have hd1 : ¬ q.den = 1 := of_decide_eq_false h13
  refine T_skip ?_
  refine T_regionS ?_
  refine zz ?_
  refine zo (ok_add_str rfl rfl rfl (by simp; omega)) ?_
  iterate 2 refine zz ?_
  refine zo (ok_call rfl rfl (rtext_spec (k := k) (by omega))) ?_
  refine zo (ok_add_str rfl rfl rfl (by simp; omega)) ?_
  refine zz ?_
  refine Run.nil ?_
  refine T_ret ?_
  exact ⟨_, [], .one (.tmp rfl), List.nil_sublist _, by unfold txtF; rw [if_neg hd1, List.append_assoc]; rfl, rfl⟩
end Go.Proofs
/- straitlaw11: what the document says of lines; the law LineBack, on the facts. -/
namespace Go.Proofs
open Go Go.Sv Num
variable {G : Imm}
instance bq72 : Bq (mkRat (-7) 2) 1 := ⟨by decide +kernel, by decide +kernel⟩
end Go.Proofs
/- The law LineBack, on the facts. -/
namespace Num
open Go Go.Lib
def kD (q : Rat) : Nat := if q.den = 1 then nDigits q.num.natAbs else max (nDigits q.num.natAbs) (nDigits q.den)
theorem num3_back {q : Rat} (h1 : nDigits q.num.natAbs ≤ 60) (h2 : nDigits q.den ≤ 60) : num3 (txtF q) = (q, ((kD q : Nat) : Int), 0) := numF_back h1 h2
theorem num3_err (s : List UInt8) : (num3 s).2.2 = 0 ∨ (num3 s).2.2 = 30 ∨ ((num3 s).2.2 = 60 ∧ (num3 s).2.1 = 0) := by
 unfold num3 numF
 simp only
 split
 ·exact .inr (.inr ⟨rfl, rfl⟩)
 ·split
  ·exact .inl rfl
  ·split
   ·exact .inr (.inr ⟨rfl, rfl⟩)
   ·split
    ·exact .inr (.inl rfl)
    ·exact .inl rfl
theorem num3_ok {s : List UInt8} {q : Rat} {k : Int} (h : num3 s = (q, k, 0)) : num3 (txtF q) = (q, ((kD q : Nat) : Int), 0) ∧ (kD q : Int) ≤ k ∧ k ≤ 60 ∧ q.num.natAbs < 4294967296 ^ 7 ∧ q.den < 4294967296 ^ 7 := by
 obtain ⟨h1, h2, h3, h4⟩ := numF_ok h
 have p1 : q.num.natAbs < 10 ^ 60 := Nat.lt_of_lt_of_le (lt_pow_nDigits _) (Nat.pow_le_pow_right (by decide) h1)
 have p2 : q.den < 10 ^ 60 := Nat.lt_of_lt_of_le (lt_pow_nDigits _) (Nat.pow_le_pow_right (by decide) h2)
 exact ⟨num3_back h1 h2, h3, h4, Nat.lt_of_lt_of_le p1 (by decide), Nat.lt_of_lt_of_le p2 (by decide)⟩
end Num
namespace Go.Proofs
open Go Go.Sv Num
variable {G : Imm}
theorem txt_le {q : Rat} {k : Nat} (h : Bq q k) (hk : k ≤ 1000) : (txtF q).length ≤ 50000 := by
 have h1 := itxt_le h.num hk
 have h2 := dec_le h.den hk
 unfold txtF
 rw [List.length_append]
 split
 ·simp; omega
 ·rw [List.length_cons]; have : (Lib.decDigits q.den).length ≤ 20000 := h2; omega
end Go.Proofs
/- The law LineParts, on the facts. -/
namespace Num
open Go Go.Lib
def nl (ws : List (List UInt8)) : List UInt8 := ws.flatMap fun w => w ++ [10]
theorem nl_join {ws : List (List UInt8)} (h : ws ≠ []) : nl ws = join ws [10] ++ [10] := by
  induction ws with
  | nil => exact absurd rfl h
  | cons w v ih =>
    cases v with
    | nil => simp [nl, join]
    | cons y v =>
      have := ih (by simp)
      unfold nl join at this ⊢
      rw [List.flatMap_cons, this, List.intercalate_cons_cons]; simp
theorem lnOk_snoc (r : List UInt8) : lnOk (r ++ [10]) = ful (spl 10 r) ∧ trimSuffix (r ++ [10]) [10] = r := by
 rcases suffix_cases (r ++ [10]) 10 with ⟨r', h, hs, ht⟩ | ⟨_, _, h⟩
 ·have e : r = r' := (List.append_inj_left' h rfl)
  subst e
  exact ⟨by unfold lnOk; rw [hs, ht]; rfl, ht⟩
 ·exact absurd (by simp) h
theorem join32_le {ws : List (List UInt8)} (hne : ws ≠ []) : (join ws [32]).length + 1 = (nl ws).length := by
  induction ws with
  | nil => exact absurd rfl hne
  | cons w v ih =>
    cases v with
    | nil => simp [nl, join]
    | cons y v =>
      have := ih (by simp)
      unfold nl join at this ⊢
      rw [List.flatMap_cons, List.intercalate_cons_cons]; simp only [List.length_append, List.length_singleton] at this ⊢; omega
end Num
namespace Go.Proofs
open Go Go.Sv Num
variable {G : Imm}
end Go.Proofs
/- The law LineNumbers, on the facts. -/
namespace Num
open Go Go.Lib
end Num
namespace Go.Proofs
open Go Go.Sv Num
variable {G : Imm}
end Go.Proofs
/- The law LineTells, on the facts. -/
namespace Num
open Go Go.Lib
theorem num3_zero {s : List UInt8} (h : (num3 s).2.2 ≠ 0) : (num3 s).1 = 0 := by
 revert h
 unfold num3 numF
 simp only
 split
 ·exact fun _ => rfl
 ·split
  ·exact fun h => absurd rfl h
  ·split
   ·exact fun _ => rfl
   ·split
    ·exact fun _ => rfl
    ·exact fun h => absurd rfl h
end Num
namespace Go.Proofs
open Go Go.Sv Num
variable {G : Imm}
theorem num3_bq (s : List UInt8) : Bq (num3 s).1 7 := by
 by_cases h : (num3 s).2.2 = 0
 ·obtain ⟨q2, k2, hn⟩ : ∃ q2 k2, num3 s = (q2, k2, 0) := ⟨_, _, Prod.ext rfl (Prod.ext rfl h)⟩
  obtain ⟨_, _, _, h1, h2⟩ := num3_ok hn
  rw [hn]; exact ⟨h1, h2⟩
 ·rw [num3_zero h]; exact ⟨by decide, by decide⟩
end Go.Proofs
