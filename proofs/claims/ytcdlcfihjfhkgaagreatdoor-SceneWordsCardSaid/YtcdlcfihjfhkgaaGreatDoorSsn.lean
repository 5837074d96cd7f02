/- straitref11.Text; what the document says of lines; LineBack, on the facts. -/
import Derived.Test.YtcdlcfihjfhkgaaGreatDoorSsm
import Derived.Test.YtcdlcfihjfhkgaaGreatDoorSn2
namespace Go.Proofs
open Go Go.Sv Num
variable {G : Imm}
theorem sign_zero {x y : Int} : ((x - y).sign == 0) = decide (x = y) := by
  by_cases h : x = y
  · subst h; rw [decide_eq_true rfl, Int.sub_self]; rfl
  · rw [decide_eq_false h]
    exact beq_eq_false_iff_ne.2 fun e => h (by have := Int.sign_eq_zero_iff_zero.1 e; omega)
theorem sgn_abs (b : Bool) (n : Nat) : (sgn b n).natAbs = n := by unfold sgn; split <;> omega
theorem bz_diff {x y : Int} {k j : Nat} (h1 : x.natAbs < 4294967296 ^ k) (h2 : y.natAbs < 4294967296 ^ j) : (x - y).natAbs < 4294967296 ^ (k + j + 1) := by
  have a1 : 4294967296 ^ k ≤ 4294967296 ^ (k + j) := Nat.pow_le_pow_right (by decide) (by omega)
  have a2 : 4294967296 ^ j ≤ 4294967296 ^ (k + j) := Nat.pow_le_pow_right (by decide) (by omega)
  rw [Nat.pow_succ]
  generalize 4294967296 ^ (k + j) = p at *
  generalize 4294967296 ^ k = p1 at *
  generalize 4294967296 ^ j = p2 at *
  omega
theorem rzcmp_spec {b c : Bool} {l m : List Nat} {x y : Int} {k j : Nat} [hx : IsZ b l x k] [hy : IsZ c m y j] (hs : k + j + 1100 ≤ cap := by decide) : PSpec Tryz.prog G 108 [aggS [boolS b, natS l], aggS [boolS c, natS m]] (intS .i64 (x - y).sign) := by
  have h1 : Bz x k := ⟨by rw [← hx.val, sgn_abs]; exact Nat.lt_of_lt_of_le (val_lt hx.lim) (Nat.pow_le_pow_right (by decide) hx.len)⟩
  have h2 : Bz y j := ⟨by rw [← hy.val, sgn_abs]; exact Nat.lt_of_lt_of_le (val_lt hy.lim) (Nat.pow_le_pow_right (by decide) hy.len)⟩
  have h3 : Bz (x - y) (k + j + 1) := ⟨bz_diff h1.h h2.h⟩
  refine fn_spec Tryz.func108 rfl rfl rfl ?_
  refine T_regionS ?_
  iterate 2 refine Run.one (ok_box rfl rfl) rfl rfl rfl ?_
  refine Run.one (ok_assign rfl rfl) rfl rfl rfl ?_
  refine Run.nil ?_
  refine T_regionS ?_
  iterate 2 refine Run.one (ok_load_agg rfl rfl rfl rfl) rfl rfl rfl ?_
  refine Run.one (ok_call rfl rfl (rzsub_spec hs)) rfl rfl rfl ?_
  refine Run.one (ok_call rfl rfl (rzSign_spec (k := k + j + 1) (by omega))) rfl rfl rfl ?_
  refine Run.one (ok_assign rfl rfl) rfl rfl rfl ?_
  refine Run.nil ?_
  refine T_ret ?_
  exact ⟨_, [], .one (.tmp rfl), List.nil_sublist _, rfl, rfl⟩
theorem rzsame_spec {b c : Bool} {l m : List Nat} {x y : Int} {k j : Nat} [hx : IsZ b l x k] [hy : IsZ c m y j] (hs : k + j + 1100 ≤ cap := by decide) : PSpec Tryz.prog G 66 [aggS [boolS b, natS l], aggS [boolS c, natS m]] (boolS (decide (x = y))) := by
  refine fn_spec Tryz.func66 rfl rfl rfl ?_
  refine T_regionS ?_
  iterate 2 refine Run.one (ok_box rfl rfl) rfl rfl rfl ?_
  refine Run.one (ok_assign rfl rfl) rfl rfl rfl ?_
  refine Run.nil ?_
  refine T_regionS ?_
  iterate 2 refine Run.one (ok_load_agg rfl rfl rfl rfl) rfl rfl rfl ?_
  refine Run.one (ok_call rfl rfl (rzcmp_spec hs)) rfl rfl rfl ?_
  refine Run.one ((ok_cmp rfl rfl rfl rfl).sub (bool_eq sign_zero)) rfl rfl rfl ?_
  refine Run.one (ok_assign rfl rfl) rfl rfl rfl ?_
  refine Run.nil ?_
  refine T_ret ?_
  exact ⟨_, [], .one (.tmp rfl), List.nil_sublist _, rfl, rfl⟩
theorem rltext_spec {b : Bool} {l d : List Nat} {q : Rat} {k : Nat} [h : IsQ b l d q k] [hq : Bq q k] (hs : 64 * k + 20000 ≤ 65536) : PSpec Tryz.prog G 23 [aggS [boolS b, natS l, natS d]] (strS (txtF q)) := by
  have i1 : Bd q.num.natAbs k := ⟨hq.num⟩
  have i2 : Bd q.den k := ⟨hq.den⟩
  have hd := dec_le hq.den (by omega)
  have hi := itxt_le hq.num (by omega)
  have i3 : IsZ false (dig q.den) (q.den : Int) k := ⟨lim_dig _, by rw [val_dig, sgn_false], dig_length_le hq.den⟩
  refine fn_spec Tryz.func23 rfl rfl rfl ?_
  refine T_regionS ?_
  refine Run.box rfl rfl rfl rfl rfl rfl fun b1 => ?_
  refine Run.one (ok_assign rfl rfl) rfl rfl rfl ?_
  refine Run.nil ?_
  refine T_regionS ?_
  refine Run.one (ok_load_own_agg 0 rfl rfl rfl rfl rfl) rfl rfl rfl ?_
  refine Run.one (ok_call rfl rfl (rqNorm_spec hs)) rfl rfl rfl ?_
  refine Run.store 0 rfl rfl rfl rfl rfl rfl rfl rfl rfl ?_
  refine Run.nil ?_
  refine T_regionS ?_
  refine Run.one (ok_fieldAddr_eq rfl rfl rfl) rfl rfl rfl ?_
  refine Run.one (ok_load_own_agg 0 rfl rfl rfl rfl rfl) rfl rfl rfl ?_
  refine Run.one ((ok_call rfl rfl (ritext_spec (k := k) (by omega))).sub (str_eq (idec_itxt q.num))) rfl rfl rfl ?_
  refine Run.one (ok_assign rfl rfl) rfl rfl rfl ?_
  refine Run.nil ?_
  refine T_seq ?_
  refine T_drawS 5 (by kernel_rfl) ?_
  refine Run.one (ok_fieldAddr_eq rfl rfl rfl) rfl rfl rfl ?_
  refine Run.one (ok_load_own 0 rfl rfl rfl rfl) rfl rfl rfl ?_
  refine Run.one (ok_build rfl rfl rfl) rfl rfl rfl ?_
  refine Run.one (ok_call rfl rfl (rzOf_spec (n := 1) (by decide) (by decide))) rfl rfl rfl ?_
  refine Run.one ((ok_call rfl rfl (rzsame_spec (y := 1) (j := 1) (by unfold cap; omega))).sub (bool_eq (c := decide (q.den = 1)) (decide_eq_decide.2 (by omega)))) rfl rfl rfl ?_
  iterate 2 refine Run.nil ?_
  refine T_cond rfl rfl (fun h13 => ?_) (fun h13 => ?_)
  · have hd1 : q.den = 1 := of_decide_eq_true h13
    refine T_regionS ?_
    refine Run.one (ok_move rfl rfl) rfl rfl rfl ?_
    refine Run.one (ok_assign rfl rfl) rfl rfl rfl ?_
    refine Run.nil ?_
    refine T_ret ?_
    exact ⟨_, [], .one (.tmp rfl), List.nil_sublist _, by unfold txtF; rw [if_pos hd1, List.append_nil], rfl⟩
  · have hd1 : ¬ q.den = 1 := of_decide_eq_false h13
    refine T_skip ?_
    refine T_regionS ?_
    refine Run.one (ok_move rfl rfl) rfl rfl rfl ?_
    refine Run.one (ok_add_str rfl rfl rfl (by simp; omega)) rfl rfl rfl ?_
    refine Run.one (ok_fieldAddr_eq rfl rfl rfl) rfl rfl rfl ?_
    refine Run.one (ok_load_own 0 rfl rfl rfl rfl) rfl rfl rfl ?_
    refine Run.one (ok_call rfl rfl (rtext_spec (k := k) (by omega))) rfl rfl rfl ?_
    refine Run.one (ok_add_str rfl rfl rfl (by simp; omega)) rfl rfl rfl ?_
    refine Run.one (ok_assign rfl rfl) rfl rfl rfl ?_
    refine Run.nil ?_
    refine T_ret ?_
    exact ⟨_, [], .one (.tmp rfl), List.nil_sublist _, by unfold txtF; rw [if_neg hd1, List.append_assoc]; rfl, rfl⟩
end Go.Proofs
