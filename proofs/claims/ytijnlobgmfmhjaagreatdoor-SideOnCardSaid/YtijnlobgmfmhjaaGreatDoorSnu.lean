/- Rationals: rat. -/
import Derived.Test.YtijnlobgmfmhjaaGreatDoorSnt
namespace Go.Proofs
open Go Go.Sv Num
variable {G : Imm}
/-- the cells of a rational as it is told -/
abbrev canQ (q : Rat) : List SV := [boolS (decide (q.num < 0)), natS (dig q.num.natAbs), natS (dig q.den)]
class Bq (q : Rat) (k : outParam Nat) : Prop where
  num : q.num.natAbs < 4294967296 ^ k
  den : q.den < 4294967296 ^ k
class IsQ (b : Bool) (l d : List Nat) (q : outParam Rat) (k : outParam Nat) : Prop where
  lim : Lim l
  limd : Lim d
  val : mkRat (sgn b (Num.val l)) (Num.val d) = q
  len : l.length ≤ k
  lend : d.length ≤ k
  pos : 0 < k
theorem Bq.bz {q : Rat} {k : Nat} (h : Bq q k) : Bz q.num k := ⟨h.num⟩
theorem Bq.bd {q : Rat} {k : Nat} (h : Bq q k) : Bd q.den k := ⟨h.den⟩
theorem Bq.pos {q : Rat} {k : Nat} (h : Bq q k) : 0 < k := by
  rcases Nat.eq_zero_or_pos k with e | e
  · have h1 := h.den; rw [e, Nat.pow_zero] at h1; exact absurd q.den_pos (by omega)
  · exact e
theorem Bq.lens {q : Rat} {k : Nat} (h : Bq q k) : (dig q.num.natAbs).length ≤ k ∧ (dig q.den).length ≤ k := ⟨dig_length_le h.num, dig_length_le h.den⟩
instance isQ_can {q : Rat} {k : Nat} [h : Bq q k] : IsQ (decide (q.num < 0)) (dig q.num.natAbs) (dig q.den) q k :=
  ⟨lim_dig _, lim_dig _, by rw [val_dig, val_dig, sgn_self, Rat.mkRat_self], h.lens.1, h.lens.2, h.pos⟩
theorem mkRat_le {z : Int} {d : Nat} (hd : d ≠ 0) : (mkRat z d).num.natAbs ≤ z.natAbs ∧ (mkRat z d).den ≤ d := by
  have h1 := mkRat_abs (b := decide (z < 0)) (a := z.natAbs) hd
  have h2 := mkRat_den (b := decide (z < 0)) (a := z.natAbs) hd
  rw [sgn_self] at h1 h2
  exact ⟨by rw [h1]; exact Nat.div_le_self _ _, by rw [h2]; exact Nat.div_le_self _ _⟩
theorem bq_mkRat {z : Int} {d k : Nat} (hz : z.natAbs < 4294967296 ^ k) (hd : d < 4294967296 ^ k) (hk : 0 < k) : Bq (mkRat z d) k := by
  rcases Nat.eq_zero_or_pos d with e | e
  · rw [e, Rat.mkRat_zero]; exact ⟨Nat.pow_pos (by decide), Nat.one_lt_pow (by omega) (by decide)⟩
  · obtain ⟨h1, h2⟩ := mkRat_le (z := z) (d := d) (by omega)
    exact ⟨Nat.lt_of_le_of_lt h1 hz, Nat.lt_of_le_of_lt h2 hd⟩
theorem IsQ.bq {b : Bool} {l d : List Nat} {q : Rat} {k : Nat} (h : IsQ b l d q k) : Bq q k := by
  rw [← h.val]
  exact bq_mkRat (by rw [sgn_natAbs]; exact Nat.lt_of_lt_of_le (val_lt h.lim) (Nat.pow_le_pow_right (by decide) h.len)) (Nat.lt_of_lt_of_le (val_lt h.limd) (Nat.pow_le_pow_right (by decide) h.lend)) h.pos
theorem bq_le {q : Rat} {k l : Nat} (h : Bq q k) (hl : k ≤ l) : Bq q l := ⟨Nat.lt_of_lt_of_le h.num (Nat.pow_le_pow_right (by decide) hl), Nat.lt_of_lt_of_le h.den (Nat.pow_le_pow_right (by decide) hl)⟩
theorem dbl_lt {x y k : Nat} (h : x < 4294967296 ^ k) (h' : y < 4294967296 ^ k) : x + y < 4294967296 ^ (k + 1) := by
  rw [pow_split]; exact Nat.lt_of_lt_of_le (Nat.add_lt_add h h') (by rw [← Nat.mul_two]; exact Nat.mul_le_mul_left _ (by decide))
theorem cross_lt {p q : Rat} {k j : Nat} (hp : Bq p k) (hq : Bq q j) : (p.num * (q.den : Int)).natAbs < 4294967296 ^ (k + j) ∧ (q.num * (p.den : Int)).natAbs < 4294967296 ^ (k + j) ∧ p.den * q.den < 4294967296 ^ (k + j) := by
  rw [Int.natAbs_mul, Int.natAbs_mul, Nat.pow_add, Int.natAbs_natCast, Int.natAbs_natCast]
  exact ⟨Nat.mul_lt_mul'' hp.num hq.den, by rw [Nat.mul_comm (4294967296 ^ k)]; exact Nat.mul_lt_mul'' hq.num hp.den, Nat.mul_lt_mul'' hp.den hq.den⟩
instance bq_add {p q : Rat} {k j : Nat} [hp : Bq p k] [hq : Bq q j] : Bq (p + q) (k + j + 1) := by
  obtain ⟨h1, h2, h3⟩ := cross_lt hp hq
  rw [Rat.add_def']
  exact bq_mkRat (Nat.lt_of_le_of_lt (Int.natAbs_add_le _ _) (dbl_lt h1 h2)) (Nat.lt_of_lt_of_le h3 (Nat.pow_le_pow_right (by decide) (by omega))) (by omega)
instance bq_sub {p q : Rat} {k j : Nat} [hp : Bq p k] [hq : Bq q j] : Bq (p - q) (k + j + 1) := by
  obtain ⟨h1, h2, h3⟩ := cross_lt hp hq
  rw [Rat.sub_def']
  exact bq_mkRat (Nat.lt_of_le_of_lt (Int.natAbs_sub_le _ _) (dbl_lt h1 h2)) (Nat.lt_of_lt_of_le h3 (Nat.pow_le_pow_right (by decide) (by omega))) (by omega)
instance bq_mul {p q : Rat} {k j : Nat} [hp : Bq p k] [hq : Bq q j] : Bq (p * q) (k + j) := by
  rw [Rat.mul_def']
  exact bq_mkRat (by rw [Int.natAbs_mul, Nat.pow_add]; exact Nat.mul_lt_mul'' hp.num hq.num) (cross_lt hp hq).2.2 (by have := hp.pos; omega)
instance bq_neg {q : Rat} {k : Nat} [h : Bq q k] : Bq (-q) k := ⟨by rw [Rat.neg_num, Int.natAbs_neg]; exact h.num, h.den⟩
instance bq_zero : Bq 0 1 := ⟨by decide, by decide⟩
instance bq_one : Bq 1 1 := ⟨by decide, by decide⟩
theorem dig_one : dig 1 = [1] := by rw [dig_pos (by decide), show 1 / 4294967296 = 0 from rfl, dig_zero]
theorem canQ_mk {z : Int} {d : Nat} (hd : d ≠ 0) : canQ (mkRat z d) = [boolS (decide (z < 0)), natS (dig (z.natAbs / Nat.gcd z.natAbs d)), natS (dig (d / Nat.gcd z.natAbs d))] := by
  have h1 := mkRat_abs (b := decide (z < 0)) (a := z.natAbs) hd
  have h2 := mkRat_den (b := decide (z < 0)) (a := z.natAbs) hd
  have h3 := mkRat_neg (b := decide (z < 0)) (a := z.natAbs) hd
  rw [sgn_self] at h1 h2 h3
  have h4 : decide ((mkRat z d).num < 0) = decide (z < 0) := by
    rw [h3]; by_cases h : z < 0
    · rw [decide_eq_true h, Bool.true_and]; exact decide_eq_true (by omega)
    · rw [decide_eq_false h, Bool.false_and]
  show [boolS (decide ((mkRat z d).num < 0)), natS (dig (mkRat z d).num.natAbs), natS (dig (mkRat z d).den)] = _
  rw [h4, h1, h2]
theorem isQ_mk {z : Int} {d k : Nat} {q : Rat} (hz : z.natAbs < 4294967296 ^ k) (hd : d < 4294967296 ^ k) (hk : 0 < k) (hq : mkRat z d = q) : IsQ (decide (z < 0)) (dig z.natAbs) (dig d) q k :=
  ⟨lim_dig _, lim_dig _, by rw [val_dig, val_dig, sgn_self, hq], dig_length_le hz, dig_length_le hd, hk⟩
abbrev qc (p : Bool × List Nat × List Nat) : List SV := [boolS p.1, natS p.2.1, natS p.2.2]
def qv (p : Bool × List Nat × List Nat) : Rat := mkRat (sgn p.1 (Num.val p.2.1)) (Num.val p.2.2)
def qsz (p : Bool × List Nat × List Nat) : Nat := max p.2.1.length p.2.2.length + 1
theorem isQ_of {b : Bool} {l d : List Nat} (h : Lim l) (h' : Lim d) : IsQ b l d (qv (b, l, d)) (qsz (b, l, d)) := ⟨h, h', rfl, by unfold qsz; simp only; omega, by unfold qsz; simp only; omega, by unfold qsz; omega⟩
def sqs (xs : List (Bool × List Nat × List Nat)) (i : Nat) : Nat := ((xs.take i).map fun p => qsz p + 1).sum
theorem sqs_succ {xs : List (Bool × List Nat × List Nat)} {i : Nat} {p : Bool × List Nat × List Nat} (h : xs[i]? = some p) : sqs xs (i + 1) = sqs xs i + (qsz p + 1) := by
  unfold sqs; exact sum_take (fun p : Bool × List Nat × List Nat => qsz p + 1) h
theorem sqs_le (xs : List (Bool × List Nat × List Nat)) (i : Nat) : sqs xs i ≤ sqs xs xs.length := by
  have := sum_take_le (fun p : Bool × List Nat × List Nat => qsz p + 1) xs i
  unfold sqs; rw [List.take_length]; exact this
def allQ (xs : List (Bool × List Nat × List Nat)) : List (List SV) := xs.map fun p => [ptrS (canQ (qv p))]
theorem allQ_length {xs : List (Bool × List Nat × List Nat)} : (allQ xs).length = xs.length := by simp [allQ]
theorem allQ_inv {xs : List (Bool × List Nat × List Nat)} {i : Nat} {ss : List SV} (h : (allQ xs)[i]? = some ss) : ∃ p, xs[i]? = some p ∧ ss = [ptrS (canQ (qv p))] := by
  simp only [allQ, List.getElem?_map, Option.map_eq_some_iff] at h
  obtain ⟨p, h1, h2⟩ := h; exact ⟨p, h1, h2.symm⟩
theorem allQ_ss {xs : List (Bool × List Nat × List Nat)} {ss : List SV} (h : ss ∈ allQ xs) : ss.length = 1 := by
  obtain ⟨i, _, rfl⟩ := List.mem_map.1 h; rfl
theorem cmp_sign {p q : Rat} : (p.num * (q.den : Int) - q.num * (p.den : Int)).sign = tri p q := by
  unfold tri
  by_cases h1 : p < q
  · rw [if_pos h1]; have := (Rat.lt_iff p q).1 h1; exact Int.sign_eq_neg_one_of_neg (by omega)
  · rw [if_neg h1]
    by_cases h2 : q < p
    · rw [if_pos h2]; have := (Rat.lt_iff q p).1 h2; exact Int.sign_eq_one_of_pos (by omega)
    · rw [if_neg h2]
      have h3 := mt (Rat.lt_iff p q).2 h1
      have h4 := mt (Rat.lt_iff q p).2 h2
      rw [show p.num * (q.den : Int) - q.num * (p.den : Int) = 0 by omega]; rfl
theorem qwhole_spec {l : List Nat} : PSpec Tryz.prog G 63 [natS l] (aggS [boolS false, natS l]) := by
  refine fn_spec Tryz.func63 rfl rfl rfl ?_
  refine T_regionS ?_
  refine Run.alloc rfl rfl rfl rfl rfl fun b2 => ?_
  refine Run.nil ?_
  refine T_regionS ?_
  refine Run.one (ok_move rfl rfl) rfl rfl rfl ?_
  refine Run.one (ok_build rfl rfl rfl) rfl rfl rfl ?_
  refine Run.store 0 rfl rfl rfl rfl rfl rfl rfl rfl rfl ?_
  refine Run.nil ?_
  refine T_ret ?_
  exact ⟨_, [], .one (.agg 0 inferInstance rfl rfl rfl rfl), List.nil_sublist _, rfl, rfl⟩
theorem qOf_spec {n : Int} {q : Rat} (h1 : -9223372036854775808 ≤ n) (h2 : n ≤ 9223372036854775807) (hq : (n : Rat) = q := by rfl) : PSpec Tryz.prog G 76 [intS .i64 n] (aggS (canQ q)) := by
  refine fn_spec Tryz.func76 rfl rfl rfl ?_
  refine T_regionS ?_
  refine Run.alloc rfl rfl rfl rfl rfl fun b2 => ?_
  refine Run.nil ?_
  refine T_regionS ?_
  refine Run.one (ok_move rfl rfl) rfl rfl rfl ?_
  refine Run.one (ok_call rfl rfl (zOf_spec h1 h2)) rfl rfl rfl ?_
  refine Run.one (ok_buildNat [1] rfl rfl (by decide) rfl (by simp) rfl rfl rfl) rfl rfl rfl ?_
  refine Run.one (ok_build rfl rfl rfl) rfl rfl rfl ?_
  refine Run.store 0 rfl rfl rfl rfl rfl rfl rfl rfl rfl ?_
  refine Run.nil ?_
  refine T_ret ?_
  exact ⟨_, [], .one (.agg 0 inferInstance rfl rfl rfl rfl), List.nil_sublist _, by rw [← hq]; show _ = aggS [boolS (decide (n < 0)), natS (dig n.natAbs), natS (dig 1)]; rw [dig_one]; rfl, rfl⟩
theorem qnorm_spec [Tab G] {b : Bool} {l d : List Nat} {q : Rat} {k bn : Nat} [h : IsQ b l d q k] (hs : 2 * k + 11000 ≤ cap := by decide) : CallSpec Tryz.prog G 73 [eqS (.pointer (some ⟨bn, 0, none⟩))] [⟨some bn, 80, [boolS b, natS l, natS d], 0⟩] (fun s H' => s = boolS (decide (val d ≠ 0)) ∧ H' = [⟨some bn, 80, canQ q, 0⟩]) := by
  have hlen := h.len
  have hlend := h.lend
  have hv := h.val
  have i1 : IsNat d (val d) := isNat_of h.limd
  have i2 : IsZ b l (sgn b (val l)) k := ⟨h.lim, rfl, hlen⟩
  have hz := i2.bz.len
  obtain ⟨z, hze⟩ : ∃ z, z = sgn b (val l) := ⟨_, rfl⟩
  rw [← hze] at hv hz i2
  refine fn_spec Tryz.func73 rfl rfl rfl ?_
  refine T_regionS ?_
  refine Run.one (ok_assign rfl rfl) rfl rfl rfl ?_
  refine Run.nil ?_
  refine T_seq ?_
  refine T_regionS ?_
  refine Run.one (ok_move rfl rfl) rfl rfl rfl ?_
  refine Run.one (ok_nilCheck_eq rfl rfl) rfl rfl rfl ?_
  refine Run.one (ok_fieldAddr_eq rfl rfl rfl) rfl rfl rfl ?_
  refine Run.one (ok_fieldAddr_eq rfl rfl rfl) rfl rfl rfl ?_
  refine Run.one (ok_load_own 0 rfl rfl rfl rfl) rfl rfl rfl ?_
  refine Run.one (ok_call rfl rfl (trim_spec (by omega))) rfl rfl rfl ?_
  refine Run.one (ok_len rfl rfl) rfl rfl rfl ?_
  refine Run.one (ok_cmp rfl rfl rfl rfl) rfl rfl rfl ?_
  refine Run.nil ?_
  refine T_cond rfl rfl (fun h10 => ?_) (fun h10 => ?_)
  · have k10 := beq_iff_eq.1 h10
    have hd0 : val d = 0 := dig_len_zero.1 (by omega)
    rw [hd0, Rat.mkRat_zero] at hv
    refine T_regionS ?_
    refine Run.one (ok_move rfl rfl) rfl rfl rfl ?_
    refine Run.one (ok_call rfl rfl (qOf_spec (n := 0) (q := q) (by decide) (by decide) (by rw [← hv]; rfl))) rfl rfl rfl ?_
    refine Run.one (ok_nilCheck_eq rfl rfl) rfl rfl rfl ?_
    refine Run.one (ok_fieldAddr_eq rfl rfl rfl) rfl rfl rfl ?_
    refine Run.store 0 rfl rfl rfl rfl rfl rfl rfl rfl rfl ?_
    refine Run.nil ?_
    refine T_regionS ?_
    refine Run.one (ok_assign rfl rfl) rfl rfl rfl ?_
    refine Run.nil ?_
    refine T_ret ?_
    exact ⟨_, [_], .one (.tmp rfl), List.Sublist.refl _, congrArg boolS (decide_eq_false (by simp [hd0])).symm, rfl⟩
  · have k10 := beq_eq_false_iff_ne.1 h10
    have hd0 : val d ≠ 0 := fun h0 => k10 (by rw [h0, dig_zero]; rfl)
    refine T_skip ?_
    refine T_regionS ?_
    refine Run.one (ok_move rfl rfl) rfl rfl rfl ?_
    refine Run.one (ok_move rfl rfl) rfl rfl rfl ?_
    refine Run.one (ok_nilCheck_eq rfl rfl) rfl rfl rfl ?_
    refine Run.one (ok_fieldAddr_eq rfl rfl rfl) rfl rfl rfl ?_
    refine Run.one (ok_fieldAddr_eq rfl rfl rfl) rfl rfl rfl ?_
    refine Run.one (ok_load_own_agg 0 rfl rfl rfl rfl rfl) rfl rfl rfl ?_
    refine Run.one (ok_call rfl rfl (zNorm_spec (by omega))) rfl rfl rfl ?_
    refine Run.one (ok_nilCheck_eq rfl rfl) rfl rfl rfl ?_
    refine Run.one (ok_fieldAddr_eq rfl rfl rfl) rfl rfl rfl ?_
    refine Run.one (ok_fieldAddr_eq rfl rfl rfl) rfl rfl rfl ?_
    refine Run.store 0 rfl rfl rfl rfl rfl rfl rfl rfl rfl ?_
    refine Run.nil ?_
    refine T_drawES 21 _ (by kernel_rfl) rfl (.cons _ .slnil) ?_
    refine RunE.one (ok_move rfl rfl) rfl rfl rfl (by kernel_rfl) ?_
    refine RunE.lat (ok_move rfl rfl) rfl rfl rfl ?_
    refine RunE.one (ok_move rfl rfl) rfl rfl rfl (by kernel_rfl) ?_
    refine RunE.one (ok_nilCheck_eq rfl rfl) rfl rfl rfl (by kernel_rfl) ?_
    refine RunE.one (ok_fieldAddr_eq rfl rfl rfl) rfl rfl rfl (by kernel_rfl) ?_
    refine RunE.one (ok_fieldAddr_eq rfl rfl rfl) rfl rfl rfl (by kernel_rfl) ?_
    refine RunE.one (ok_fieldAddr_eq rfl rfl rfl) rfl rfl rfl (by kernel_rfl) ?_
    refine RunE.one (ok_load_own 0 rfl rfl rfl rfl) rfl rfl rfl (by kernel_rfl) ?_
    refine RunE.one (ok_move rfl rfl) rfl rfl rfl (by kernel_rfl) ?_
    refine RunE.one (ok_nilCheck_eq rfl rfl) rfl rfl rfl (by kernel_rfl) ?_
    refine RunE.one (ok_fieldAddr_eq rfl rfl rfl) rfl rfl rfl (by kernel_rfl) ?_
    refine RunE.one (ok_fieldAddr_eq rfl rfl rfl) rfl rfl rfl (by kernel_rfl) ?_
    refine RunE.one (ok_load_own 0 rfl rfl rfl rfl) rfl rfl rfl (by kernel_rfl) ?_
    refine RunE.one (ok_call rfl rfl (reduce_spec (by omega))) rfl rfl rfl (by kernel_rfl) ?_
    refine RunE.one (ok_move rfl rfl) rfl rfl rfl (by kernel_rfl) ?_
    refine RunE.one (ok_extract rfl rfl rfl) rfl rfl rfl (by kernel_rfl) ?_
    refine RunE.lat (ok_extract rfl rfl rfl) rfl rfl rfl ?_
    refine RunE.one (ok_nilCheck_eq rfl rfl) rfl rfl rfl (by kernel_rfl) ?_
    refine RunE.one (ok_fieldAddr_eq rfl rfl rfl) rfl rfl rfl (by kernel_rfl) ?_
    refine RunE.one (ok_fieldAddr_eq rfl rfl rfl) rfl rfl rfl (by kernel_rfl) ?_
    refine RunE.one (ok_fieldAddr_eq rfl rfl rfl) rfl rfl rfl (by kernel_rfl) ?_
    refine RunE.nil ?_
    refine EffAt.store 0 rfl rfl rfl rfl rfl rfl rfl rfl (.cons _ .slnil) ?_
    refine Run.one (ok_nilCheck_eq rfl rfl) rfl rfl rfl ?_
    refine Run.one (ok_fieldAddr_eq rfl rfl rfl) rfl rfl rfl ?_
    refine Run.one (ok_fieldAddr_eq rfl rfl rfl) rfl rfl rfl ?_
    refine Run.store 0 rfl rfl rfl rfl rfl rfl rfl rfl rfl ?_
    refine Run.nil ?_
    refine T_regionS ?_
    refine Run.one (ok_assign rfl rfl) rfl rfl rfl ?_
    refine Run.nil ?_
    refine T_ret ?_
    exact ⟨_, [_], .one (.tmp rfl), List.Sublist.refl _, congrArg boolS (decide_eq_true hd0).symm, by rw [← hv, canQ_mk hd0]; rfl⟩
theorem qof_own [Tab G] {b : Bool} {l d : List Nat} {q : Rat} {k : Nat} [h : IsQ b l d q k] (hs : 2 * k + 11000 ≤ cap := by decide) : CallSpec Tryz.prog G 57 [aggS [boolS b, natS l, natS d]] [] (fun s H' => ∃ bn, s = eqS (.pointer (some ⟨bn, 0, none⟩)) ∧ H' = [⟨some bn, 80, canQ q, 0⟩]) := by
  refine fn_spec Tryz.func57 rfl rfl rfl ?_
  refine T_regionS ?_
  refine Run.one (ok_box rfl rfl) rfl rfl rfl ?_
  refine Run.one (ok_assign rfl rfl) rfl rfl rfl ?_
  refine Run.nil ?_
  refine T_regionS ?_
  refine Run.one (ok_load_agg rfl rfl rfl rfl) rfl rfl rfl ?_
  refine Run.one (ok_build rfl rfl rfl) rfl rfl rfl ?_
  refine Run.box rfl rfl rfl rfl rfl rfl fun bn => ?_
  refine Run.one (ok_assign rfl rfl) rfl rfl rfl ?_
  refine Run.nil ?_
  refine T_regionS ?_
  refine Run.one (ok_move rfl rfl) rfl rfl rfl ?_
  refine Run.call1 0 rfl rfl rfl rfl (qnorm_spec hs) rfl rfl rfl ?_
  rintro s1 H1 ⟨rfl, rfl⟩
  refine Run.nil ?_
  refine T_regionS ?_
  refine Run.one (ok_move rfl rfl) rfl rfl rfl ?_
  refine Run.one (ok_assign rfl rfl) rfl rfl rfl ?_
  refine Run.nil ?_
  refine T_ret ?_
  exact ⟨_, [_], .one (.tmp rfl), List.Sublist.refl _, bn, rfl, rfl⟩
theorem qof_spec [Tab G] {b : Bool} {l d : List Nat} {q : Rat} {k : Nat} [h : IsQ b l d q k] (hs : 2 * k + 11000 ≤ cap := by decide) : PSpec Tryz.prog G 57 [aggS [boolS b, natS l, natS d]] (ptrS (canQ q)) := frz_spec (qof_own hs)
theorem qneg_spec [Tab G] {b : Bool} {l d : List Nat} {q : Rat} {k : Nat} [h : IsQ b l d q k] (hs : 2 * k + 11000 ≤ cap := by decide) : PSpec Tryz.prog G 75 [aggS [boolS b, natS l, natS d]] (aggS (canQ (-q))) := by
  have i1 := h.bq.bz
  refine fn_spec Tryz.func75 rfl rfl rfl ?_
  refine T_regionS ?_
  refine Run.one (ok_box rfl rfl) rfl rfl rfl ?_
  refine Run.alloc rfl rfl rfl rfl rfl fun b2 => ?_
  refine Run.nil ?_
  refine T_regionS ?_
  refine Run.one (ok_load_agg rfl rfl rfl rfl) rfl rfl rfl ?_
  refine Run.call0 rfl rfl rfl (qof_own hs) rfl rfl rfl ?_
  rintro s1 H1 ⟨bn, rfl, rfl⟩
  refine Run.one (ok_assign rfl rfl) rfl rfl rfl ?_
  refine Run.nil ?_
  refine T_regionS ?_
  refine Run.one (ok_move rfl rfl) rfl rfl rfl ?_
  refine Run.one (ok_move rfl rfl) rfl rfl rfl ?_
  refine Run.one (ok_nilCheck_eq rfl rfl) rfl rfl rfl ?_
  refine Run.one (ok_fieldAddr_eq rfl rfl rfl) rfl rfl rfl ?_
  refine Run.one (ok_fieldAddr_eq rfl rfl rfl) rfl rfl rfl ?_
  refine Run.one (ok_load_own_agg 0 rfl rfl rfl rfl rfl) rfl rfl rfl ?_
  refine Run.one (ok_call rfl rfl (zneg_spec (by omega))) rfl rfl rfl ?_
  refine Run.one (ok_nilCheck_eq rfl rfl) rfl rfl rfl ?_
  refine Run.one (ok_fieldAddr_eq rfl rfl rfl) rfl rfl rfl ?_
  refine Run.one (ok_fieldAddr_eq rfl rfl rfl) rfl rfl rfl ?_
  refine Run.store 0 rfl rfl rfl rfl rfl rfl rfl rfl rfl ?_
  refine Run.nil ?_
  refine T_regionS ?_
  refine Run.one (ok_move rfl rfl) rfl rfl rfl ?_
  refine Run.one (ok_nilCheck_eq rfl rfl) rfl rfl rfl ?_
  refine Run.one (ok_fieldAddr_eq rfl rfl rfl) rfl rfl rfl ?_
  refine Run.one (ok_load_own_agg 0 rfl rfl rfl rfl rfl) rfl rfl rfl ?_
  refine Run.store 1 rfl rfl rfl rfl rfl rfl rfl rfl rfl ?_
  refine Run.nil ?_
  refine T_ret ?_
  exact ⟨_, [], .one (.agg 1 inferInstance rfl rfl rfl rfl), List.nil_sublist _, rfl, rfl⟩
theorem qcmp_spec [Tab G] {b c : Bool} {l d m e : List Nat} {p q : Rat} {k j : Nat} [hx : IsQ b l d p k] [hy : IsQ c m e q j] (hs : 100 * (k + j) + 20000 ≤ cap := by decide) : PSpec Tryz.prog G 44 [aggS [boolS b, natS l, natS d], aggS [boolS c, natS m, natS e]] (intS .i64 (tri p q)) := by
  have hxb := hx.bq
  have hyb := hy.bq
  have i1 := hxb.bz
  have i2 := hxb.bd
  have i3 := hyb.bz
  have i4 := hyb.bd
  refine fn_spec Tryz.func44 rfl rfl rfl ?_
  refine T_regionS ?_
  refine Run.one (ok_box rfl rfl) rfl rfl rfl ?_
  refine Run.one (ok_box rfl rfl) rfl rfl rfl ?_
  refine Run.one (ok_assign rfl rfl) rfl rfl rfl ?_
  refine Run.nil ?_
  refine T_drawS 6 (by kernel_rfl) ?_
  refine Run.one (ok_load_agg rfl rfl rfl rfl) rfl rfl rfl ?_
  refine Run.one (ok_call rfl rfl (qof_spec (by omega))) rfl rfl rfl ?_
  refine Run.one (ok_load_agg rfl rfl rfl rfl) rfl rfl rfl ?_
  refine Run.one (ok_call rfl rfl (qof_spec (by omega))) rfl rfl rfl ?_
  refine Run.one (ok_assign rfl rfl) rfl rfl rfl ?_
  refine Run.one (ok_assign rfl rfl) rfl rfl rfl ?_
  refine Run.nil ?_
  refine Run.nil ?_
  refine T_drawS 28 (by kernel_rfl) ?_
  refine Run.one (ok_move rfl rfl) rfl rfl rfl ?_
  refine Run.one (ok_nilCheck rfl rfl) rfl rfl rfl ?_
  refine Run.one (ok_fieldAddr rfl rfl rfl) rfl rfl rfl ?_
  refine Run.one (ok_fieldAddr rfl rfl rfl) rfl rfl rfl ?_
  refine Run.one (ok_load_agg rfl rfl rfl rfl) rfl rfl rfl ?_
  refine Run.one (ok_move rfl rfl) rfl rfl rfl ?_
  refine Run.one (ok_nilCheck rfl rfl) rfl rfl rfl ?_
  refine Run.one (ok_fieldAddr rfl rfl rfl) rfl rfl rfl ?_
  refine Run.one (ok_fieldAddr rfl rfl rfl) rfl rfl rfl ?_
  refine Run.one (ok_load rfl rfl) rfl rfl rfl ?_
  refine Run.one (ok_call rfl rfl qwhole_spec) rfl rfl rfl ?_
  refine Run.one (ok_buildSlice rfl rfl (by decide) rfl (by simp) rfl rfl) rfl rfl rfl ?_
  refine Run.one (ok_call rfl rfl (zmul2_spec (by omega))) rfl rfl rfl ?_
  refine Run.one (ok_move rfl rfl) rfl rfl rfl ?_
  refine Run.one (ok_nilCheck rfl rfl) rfl rfl rfl ?_
  refine Run.one (ok_fieldAddr rfl rfl rfl) rfl rfl rfl ?_
  refine Run.one (ok_fieldAddr rfl rfl rfl) rfl rfl rfl ?_
  refine Run.one (ok_load_agg rfl rfl rfl rfl) rfl rfl rfl ?_
  refine Run.one (ok_move rfl rfl) rfl rfl rfl ?_
  refine Run.one (ok_nilCheck rfl rfl) rfl rfl rfl ?_
  refine Run.one (ok_fieldAddr rfl rfl rfl) rfl rfl rfl ?_
  refine Run.one (ok_fieldAddr rfl rfl rfl) rfl rfl rfl ?_
  refine Run.one (ok_load rfl rfl) rfl rfl rfl ?_
  refine Run.one (ok_call rfl rfl qwhole_spec) rfl rfl rfl ?_
  refine Run.one (ok_buildSlice rfl rfl (by decide) rfl (by simp) rfl rfl) rfl rfl rfl ?_
  refine Run.one (ok_call rfl rfl (zmul2_spec (by omega))) rfl rfl rfl ?_
  refine Run.one ((ok_call rfl rfl (zcmp_spec (by omega))).sub (int_eq cmp_sign)) rfl rfl rfl ?_
  refine Run.one (ok_assign rfl rfl) rfl rfl rfl ?_
  refine Run.nil ?_
  refine Run.nil ?_
  refine T_ret ?_
  exact ⟨_, [], .one (.tmp rfl), List.nil_sublist _, rfl, rfl⟩
theorem qnadd_spec [Tab G] {p q : Rat} {bn k j : Nat} [hx : Bq p k] [hy : Bq q j] (hs : 100 * (k + j) + 15000 ≤ cap := by decide) : CallSpec Tryz.prog G 94 [eqS (.pointer (some ⟨bn, 0, none⟩)), ptrS (canQ q)] [⟨some bn, 80, canQ p, 0⟩] (fun s H' => s = tupS [] ∧ H' = [⟨some bn, 80, canQ (p + q), 0⟩]) := by
  have i1 := hx.bz
  have i2 := hx.bd
  have i3 := hy.bz
  have i4 := hy.bd
  obtain ⟨g1, g2, g3⟩ := cross_lt hx hy
  have i5 : IsQ (decide (p.num * (q.den : Int) + q.num * (p.den : Int) < 0)) (dig (p.num * (q.den : Int) + q.num * (p.den : Int)).natAbs) (dig (p.den * q.den)) (p + q) (k + j + 1) := isQ_mk (Nat.lt_of_le_of_lt (Int.natAbs_add_le _ _) (dbl_lt g1 g2)) (Nat.lt_of_lt_of_le g3 (Nat.pow_le_pow_right (by decide) (by omega))) (by omega) (Rat.add_def' p q).symm
  refine fn_spec Tryz.func94 rfl rfl rfl ?_
  refine T_drawS 32 (by kernel_rfl) ?_
  refine Run.one (ok_move rfl rfl) rfl rfl rfl ?_
  refine Run.one (ok_move rfl rfl) rfl rfl rfl ?_
  refine Run.one (ok_nilCheck_eq rfl rfl) rfl rfl rfl ?_
  refine Run.one (ok_fieldAddr_eq rfl rfl rfl) rfl rfl rfl ?_
  refine Run.one (ok_fieldAddr_eq rfl rfl rfl) rfl rfl rfl ?_
  refine Run.one (ok_load_own_agg 0 rfl rfl rfl rfl rfl) rfl rfl rfl ?_
  refine Run.one (ok_move rfl rfl) rfl rfl rfl ?_
  refine Run.one (ok_nilCheck rfl rfl) rfl rfl rfl ?_
  refine Run.one (ok_fieldAddr rfl rfl rfl) rfl rfl rfl ?_
  refine Run.one (ok_fieldAddr rfl rfl rfl) rfl rfl rfl ?_
  refine Run.one (ok_load rfl rfl) rfl rfl rfl ?_
  refine Run.one (ok_call rfl rfl qwhole_spec) rfl rfl rfl ?_
  refine Run.one (ok_buildSlice rfl rfl (by decide) rfl (by simp) rfl rfl) rfl rfl rfl ?_
  refine Run.one (ok_call rfl rfl (zmul2_spec (by omega))) rfl rfl rfl ?_
  refine Run.one (ok_move rfl rfl) rfl rfl rfl ?_
  refine Run.one (ok_nilCheck rfl rfl) rfl rfl rfl ?_
  refine Run.one (ok_fieldAddr rfl rfl rfl) rfl rfl rfl ?_
  refine Run.one (ok_fieldAddr rfl rfl rfl) rfl rfl rfl ?_
  refine Run.one (ok_load_agg rfl rfl rfl rfl) rfl rfl rfl ?_
  refine Run.one (ok_move rfl rfl) rfl rfl rfl ?_
  refine Run.one (ok_nilCheck_eq rfl rfl) rfl rfl rfl ?_
  refine Run.one (ok_fieldAddr_eq rfl rfl rfl) rfl rfl rfl ?_
  refine Run.one (ok_fieldAddr_eq rfl rfl rfl) rfl rfl rfl ?_
  refine Run.one (ok_load_own 0 rfl rfl rfl rfl) rfl rfl rfl ?_
  refine Run.one (ok_call rfl rfl qwhole_spec) rfl rfl rfl ?_
  refine Run.one (ok_buildSlice rfl rfl (by decide) rfl (by simp) rfl rfl) rfl rfl rfl ?_
  refine Run.one (ok_call rfl rfl (zmul2_spec (by omega))) rfl rfl rfl ?_
  refine Run.one (ok_buildSlice rfl rfl (by decide) rfl (by simp) rfl rfl) rfl rfl rfl ?_
  refine Run.one (ok_call rfl rfl (zadd2_spec (by omega))) rfl rfl rfl ?_
  refine Run.one (ok_nilCheck_eq rfl rfl) rfl rfl rfl ?_
  refine Run.one (ok_fieldAddr_eq rfl rfl rfl) rfl rfl rfl ?_
  refine Run.one (ok_fieldAddr_eq rfl rfl rfl) rfl rfl rfl ?_
  refine Run.nil ?_
  refine Run.store 0 rfl rfl rfl rfl rfl rfl rfl rfl rfl ?_
  refine Run.nil ?_
  refine T_drawS 15 (by kernel_rfl) ?_
  refine Run.one (ok_move rfl rfl) rfl rfl rfl ?_
  refine Run.one (ok_move rfl rfl) rfl rfl rfl ?_
  refine Run.one (ok_nilCheck_eq rfl rfl) rfl rfl rfl ?_
  refine Run.one (ok_fieldAddr_eq rfl rfl rfl) rfl rfl rfl ?_
  refine Run.one (ok_fieldAddr_eq rfl rfl rfl) rfl rfl rfl ?_
  refine Run.one (ok_load_own 0 rfl rfl rfl rfl) rfl rfl rfl ?_
  refine Run.one (ok_move rfl rfl) rfl rfl rfl ?_
  refine Run.one (ok_nilCheck rfl rfl) rfl rfl rfl ?_
  refine Run.one (ok_fieldAddr rfl rfl rfl) rfl rfl rfl ?_
  refine Run.one (ok_fieldAddr rfl rfl rfl) rfl rfl rfl ?_
  refine Run.one (ok_load rfl rfl) rfl rfl rfl ?_
  refine Run.one (ok_call rfl rfl (mul_spec (by omega))) rfl rfl rfl ?_
  refine Run.one (ok_nilCheck_eq rfl rfl) rfl rfl rfl ?_
  refine Run.one (ok_fieldAddr_eq rfl rfl rfl) rfl rfl rfl ?_
  refine Run.one (ok_fieldAddr_eq rfl rfl rfl) rfl rfl rfl ?_
  refine Run.nil ?_
  refine Run.store 0 rfl rfl rfl rfl rfl rfl rfl rfl rfl ?_
  refine Run.nil ?_
  refine T_region ?_
  refine Run.one (ok_move rfl rfl) rfl rfl rfl ?_
  refine Run.call1 0 rfl rfl rfl rfl (qnorm_spec (by omega)) rfl rfl rfl ?_
  rintro s1 H1 ⟨rfl, rfl⟩
  refine Run.nil ?_
  exact ⟨_, [_], .none, List.Sublist.refl _, rfl, rfl⟩
theorem qnmul_spec [Tab G] {p q : Rat} {bn k j : Nat} [hx : Bq p k] [hy : Bq q j] (hs : 100 * (k + j) + 15000 ≤ cap := by decide) : CallSpec Tryz.prog G 78 [eqS (.pointer (some ⟨bn, 0, none⟩)), ptrS (canQ q)] [⟨some bn, 80, canQ p, 0⟩] (fun s H' => s = tupS [] ∧ H' = [⟨some bn, 80, canQ (p * q), 0⟩]) := by
  have i1 := hx.bz
  have i2 := hx.bd
  have i3 := hy.bz
  have i4 := hy.bd
  have i5 : IsQ (decide (p.num * q.num < 0)) (dig (p.num * q.num).natAbs) (dig (p.den * q.den)) (p * q) (k + j) := isQ_mk (by rw [Int.natAbs_mul, Nat.pow_add]; exact Nat.mul_lt_mul'' hx.num hy.num) (cross_lt hx hy).2.2 (by have := hx.pos; omega) (Rat.mul_def' p q).symm
  refine fn_spec Tryz.func78 rfl rfl rfl ?_
  refine T_drawES 28 _ (by kernel_rfl) rfl (.cons _ .slnil) ?_
  refine RunE.one (ok_move rfl rfl) rfl rfl rfl (by kernel_rfl) ?_
  refine RunE.lat (ok_move rfl rfl) rfl rfl rfl ?_
  refine RunE.one (ok_move rfl rfl) rfl rfl rfl (by kernel_rfl) ?_
  refine RunE.one (ok_nilCheck_eq rfl rfl) rfl rfl rfl (by kernel_rfl) ?_
  refine RunE.one (ok_fieldAddr_eq rfl rfl rfl) rfl rfl rfl (by kernel_rfl) ?_
  refine RunE.one (ok_fieldAddr_eq rfl rfl rfl) rfl rfl rfl (by kernel_rfl) ?_
  refine RunE.one (ok_load_own_agg 0 rfl rfl rfl rfl rfl) rfl rfl rfl (by kernel_rfl) ?_
  refine RunE.one (ok_move rfl rfl) rfl rfl rfl (by kernel_rfl) ?_
  refine RunE.one (ok_nilCheck rfl rfl) rfl rfl rfl (by kernel_rfl) ?_
  refine RunE.one (ok_fieldAddr rfl rfl rfl) rfl rfl rfl (by kernel_rfl) ?_
  refine RunE.one (ok_fieldAddr rfl rfl rfl) rfl rfl rfl (by kernel_rfl) ?_
  refine RunE.one (ok_load_agg rfl rfl rfl rfl) rfl rfl rfl (by kernel_rfl) ?_
  refine RunE.one (ok_buildSlice rfl rfl (by decide) rfl (by simp) rfl rfl) rfl rfl rfl (by kernel_rfl) ?_
  refine RunE.one (ok_call rfl rfl (zmul2_spec (by omega))) rfl rfl rfl (by kernel_rfl) ?_
  refine RunE.one (ok_move rfl rfl) rfl rfl rfl (by kernel_rfl) ?_
  refine RunE.one (ok_nilCheck_eq rfl rfl) rfl rfl rfl (by kernel_rfl) ?_
  refine RunE.one (ok_fieldAddr_eq rfl rfl rfl) rfl rfl rfl (by kernel_rfl) ?_
  refine RunE.one (ok_fieldAddr_eq rfl rfl rfl) rfl rfl rfl (by kernel_rfl) ?_
  refine RunE.one (ok_load_own 0 rfl rfl rfl rfl) rfl rfl rfl (by kernel_rfl) ?_
  refine RunE.one (ok_move rfl rfl) rfl rfl rfl (by kernel_rfl) ?_
  refine RunE.one (ok_nilCheck rfl rfl) rfl rfl rfl (by kernel_rfl) ?_
  refine RunE.one (ok_fieldAddr rfl rfl rfl) rfl rfl rfl (by kernel_rfl) ?_
  refine RunE.one (ok_fieldAddr rfl rfl rfl) rfl rfl rfl (by kernel_rfl) ?_
  refine RunE.one (ok_load rfl rfl) rfl rfl rfl (by kernel_rfl) ?_
  refine RunE.one (ok_call rfl rfl (mul_spec (by omega))) rfl rfl rfl (by kernel_rfl) ?_
  refine RunE.one (ok_nilCheck_eq rfl rfl) rfl rfl rfl (by kernel_rfl) ?_
  refine RunE.one (ok_fieldAddr_eq rfl rfl rfl) rfl rfl rfl (by kernel_rfl) ?_
  refine RunE.one (ok_fieldAddr_eq rfl rfl rfl) rfl rfl rfl (by kernel_rfl) ?_
  refine RunE.nil ?_
  refine EffAt.store 0 rfl rfl rfl rfl rfl rfl rfl rfl (.cons _ .slnil) ?_
  refine Run.one (ok_nilCheck_eq rfl rfl) rfl rfl rfl ?_
  refine Run.one (ok_fieldAddr_eq rfl rfl rfl) rfl rfl rfl ?_
  refine Run.one (ok_fieldAddr_eq rfl rfl rfl) rfl rfl rfl ?_
  refine Run.store 0 rfl rfl rfl rfl rfl rfl rfl rfl rfl ?_
  refine Run.nil ?_
  refine T_region ?_
  refine Run.one (ok_move rfl rfl) rfl rfl rfl ?_
  refine Run.call1 0 rfl rfl rfl rfl (qnorm_spec (by omega)) rfl rfl rfl ?_
  rintro s1 H1 ⟨rfl, rfl⟩
  refine Run.nil ?_
  exact ⟨_, [_], .none, List.Sublist.refl _, rfl, rfl⟩
theorem qall1_spec [Tab G] {xs : List (Bool × List Nat × List Nat)} (hl : ∀ p ∈ xs, Lim p.2.1 ∧ Lim p.2.2) (hs : ∀ p ∈ xs, 2 * qsz p + 11000 ≤ cap) : IterSpec Tryz.prog G 96 [ptrS [slS 3 qc xs]] (allQ xs) := by
  refine iter_spec Tryz.func96 rfl rfl rfl rfl fun l E hy => ?_
  refine T_regionS ?_
  refine Run.one (ok_load rfl rfl) rfl rfl rfl ?_
  refine Run.one (ok_len rfl rfl) rfl rfl rfl ?_
  refine Run.one (ok_move rfl rfl) rfl rfl rfl ?_
  refine Run.nil ?_
  refine T_block ?_
  refine T_len 5 rfl fun la => ?_
  unfold big at la
  refine T_loop (γ := Nat) (fun g => ⟨_, [(7, intS .i64 (g : Nat)), (6, intS .i64 xs.length), (5, slS 3 qc xs), (0, yieldS l), (1, ptrS [slS 3 qc xs])], [], [], (g, false)⟩) (fun g => g ≤ xs.length) (fun g => xs.length - g) 0 (Nat.zero_le _) (ent_g (subG_cons rfl (subG_cons rfl (subG_cons rfl (subG_cons rfl (subG_cons rfl (trivial))))))) ?_
  intro g hg
  refine T_regionS ?_
  refine Run.one (ok_cmp rfl rfl rfl rfl) rfl rfl rfl ?_
  refine Run.nil ?_
  refine T_seq ?_
  refine T_cond rfl rfl (fun h8 => ?_) (fun h8 => ?_)
  · have k8 := of_decide_eq_true h8
    obtain ⟨⟨b, ml, md⟩, hp⟩ : ∃ p, xs[g]? = some p := ⟨_, List.getElem?_eq_getElem (by omega)⟩
    have hpm : (b, ml, md) ∈ xs := List.mem_of_getElem? hp
    have i1 : IsQ b ml md (qv (b, ml, md)) (qsz (b, ml, md)) := isQ_of (hl _ hpm).1 (hl _ hpm).2
    have hsl := hs _ hpm
    refine T_skip ?_
    refine T_seq ?_
    refine T_block ?_
    refine T_regionS ?_
    refine Run.one (ok_indexAddr rfl rfl rfl (by omega) (y := (b, ml, md)) (hp)) rfl rfl rfl ?_
    refine Run.one ((show OpOK _ _ _ _ _ (aggS [boolS b, natS ml, natS md]) from ok_load_agg rfl rfl rfl rfl)) rfl rfl rfl ?_
    refine Run.alloc rfl rfl rfl rfl rfl fun b4 => ?_
    refine Run.store 0 rfl rfl rfl rfl rfl rfl rfl rfl rfl ?_
    refine Run.nil ?_
    refine T_regionS ?_
    refine Run.one (ok_move rfl rfl) rfl rfl rfl ?_
    refine Run.one ((show OpOK _ _ _ _ _ (aggS [boolS b, natS ml, natS md]) from ok_load_own_agg 0 rfl rfl rfl rfl rfl)) rfl rfl rfl ?_
    refine Run.one (ok_call rfl rfl (qof_spec hsl)) rfl rfl rfl ?_
    refine Run.yield rfl hy rfl rfl rfl (by simp only [allQ, List.getElem?_map, hp]; rfl) (subL_refl _) rfl rfl rfl fun y => ?_
    refine Run.one (ok_not rfl rfl) rfl rfl rfl ?_
    refine Run.nil ?_
    refine T_cond rfl rfl (fun h15 => ?_) (fun h15 => ?_)
    · refine T_ret ?_
      exact ⟨.inl rfl, .inr h15⟩
    · refine T_skip ?_
      refine T_ghost (ghost_drop (h' := []) (List.nil_sublist _)) ?_
      refine T_region ?_
      refine Run.one (ok_ari (z := ((g + 1 : Nat) : Int)) rfl rfl rfl (congrArg some (by omega)) (wrap_i64 (by omega) (by omega))) rfl rfl rfl ?_
      refine Run.one (ok_move rfl rfl) rfl rfl rfl ?_
      refine Run.nil ?_
      exact ⟨g + 1, (by omega : g + 1 ≤ xs.length), by omega, rfl, subG_cons rfl (subG_cons rfl (subG_cons rfl (subG_cons rfl (subG_cons rfl (trivial))))), subH_refl _, rfl, by simp only; rw [h15]⟩
  · have k8 := of_decide_eq_false h8
    refine T_exit ?_
    exact ⟨.inr rfl, .inl (by rw [allQ_length, show g = xs.length by omega])⟩
theorem qall_spec {xs : List (Bool × List Nat × List Nat)} : PSpec Tryz.prog G 77 [slS 3 qc xs] (fnS 96 [ptrS [slS 3 qc xs]]) := by
  refine fn_spec Tryz.func77 rfl rfl rfl ?_
  refine T_regionS ?_
  refine Run.one (ok_box rfl rfl) rfl rfl rfl ?_
  refine Run.one (ok_assign rfl rfl) rfl rfl rfl ?_
  refine Run.nil ?_
  refine T_regionS ?_
  refine Run.one (ok_makeFunc rfl rfl) rfl rfl rfl ?_
  refine Run.one (ok_assign rfl rfl) rfl rfl rfl ?_
  refine Run.nil ?_
  refine T_ret ?_
  exact ⟨_, [], .one (.tmp rfl), List.nil_sublist _, rfl, rfl⟩
theorem qadd_spec [Tab G] {xs : List (Bool × List Nat × List Nat)} (hl : ∀ p ∈ xs, Lim p.2.1 ∧ Lim p.2.2) (hs : 100 * sqs xs xs.length + 18000 ≤ cap + 400) : PSpec Tryz.prog G 74 [slS 3 qc xs] (aggS (canQ (xs.foldl (fun z p => z + qv p) 0))) := by
  unfold cap at hs
  have hps : ∀ p ∈ xs, 2 * qsz p + 11000 ≤ cap := fun p hp => by
    obtain ⟨i, hi⟩ := List.getElem?_of_mem hp
    have h1 := sqs_succ hi
    have h2 := sqs_le xs (i + 1)
    unfold cap; omega
  refine fn_spec Tryz.func74 rfl rfl rfl ?_
  refine T_regionS ?_
  refine Run.alloc rfl rfl rfl rfl rfl fun b2 => ?_
  refine Run.nil ?_
  refine T_regionS ?_
  refine Run.one (ok_call rfl rfl (qOf_spec (n := 0) (q := 0) (by decide) (by decide))) rfl rfl rfl ?_
  refine Run.one (ok_build rfl rfl rfl) rfl rfl rfl ?_
  refine Run.box rfl rfl rfl rfl rfl rfl fun bn => ?_
  refine Run.alloc rfl rfl rfl rfl rfl fun b3 => ?_
  refine Run.store 0 rfl rfl rfl rfl rfl rfl rfl rfl rfl ?_
  refine Run.nil ?_
  refine T_seq ?_
  refine T_regionS ?_
  refine Run.one (ok_move rfl rfl) rfl rfl rfl ?_
  refine Run.one (ok_call rfl rfl qall_spec) rfl rfl rfl ?_
  refine Run.nil ?_
  refine T_block ?_
  refine T_rng rfl rfl (qall1_spec hl hps) (fun ss h => allQ_ss h) (by decide) rfl
      (fun k h i => i = (0, false) ∧ k ≤ xs.length ∧ Bq ((xs.take k).foldl (fun z p => z + qv p) 0) (sqs xs k + 1) ∧ h = [⟨some b3, 81, [eqS (.pointer (some ⟨bn, 0, none⟩))], 0⟩, ⟨some bn, 80, canQ ((xs.take k).foldl (fun z p => z + qv p) 0), 0⟩, ⟨some b2, 27, [eqS (.bool false), eqS (.slice none 0 0), eqS (.slice none 0 0)], 0⟩])
      (fun _ _ _ => False) ⟨rfl, Nat.zero_le _, by rw [List.take_zero]; exact bq_le (l := sqs xs 0 + 1) (show Bq 0 1 from inferInstance) (by omega), rfl⟩ ?_ ?_ ?_
  · rintro l k ss h i hk ⟨rfl, _, hbz, rfl⟩
    obtain ⟨p, hp, rfl⟩ := allQ_inv hk
    have hlt := lt_of_get hp
    obtain ⟨acc, hacc⟩ : ∃ acc, acc = (xs.take k).foldl (fun z p => z + qv p) 0 := ⟨_, rfl⟩
    have hfs := foldl_take (fun z p => z + qv p) 0 hp
    have hs1 := sqs_succ hp
    have hs2 := sqs_le xs (k + 1)
    rw [← hacc] at hbz hfs ⊢
    have hpm := List.mem_of_getElem? hp
    have i2 : Bq (qv p) (qsz p) := (isQ_of (b := p.1) (hl p hpm).1 (hl p hpm).2).bq
    refine T_region ?_
    refine Run.one (ok_assign rfl rfl) rfl rfl rfl ?_
    refine Run.nil ?_
    refine ⟨rfl, ?_⟩
    refine T_block ?_
    refine T_region ?_
    refine Run.one (ok_load_own 0 rfl rfl rfl rfl) rfl rfl rfl ?_
    refine Run.one (ok_move rfl rfl) rfl rfl rfl ?_
    refine Run.call1 1 rfl rfl rfl rfl (qnadd_spec (by unfold cap; omega)) rfl rfl rfl ?_
    rintro s1 H1 ⟨rfl, rfl⟩
    refine Run.nil ?_
    refine ⟨rfl, by omega, ?_, by rw [hfs]; rfl⟩
    rw [hfs, hs1]; exact bq_le (bq_add (hp := hbz) (hq := i2)) (by omega)
  · rintro h i D ⟨rfl, _, hbz, rfl⟩
    rw [allQ_length, List.take_length]
    refine T_regionS ?_
    refine Run.one (ok_load_own 0 rfl rfl rfl rfl) rfl rfl rfl ?_
    refine Run.one (ok_nilCheck_eq rfl rfl) rfl rfl rfl ?_
    refine Run.one (ok_fieldAddr_eq rfl rfl rfl) rfl rfl rfl ?_
    refine Run.one (ok_load_own_agg 1 rfl rfl rfl rfl rfl) rfl rfl rfl ?_
    refine Run.store 2 rfl rfl rfl rfl rfl rfl rfl rfl rfl ?_
    refine Run.nil ?_
    refine T_ret ?_
    exact ⟨_, [], .one (.agg 2 inferInstance rfl rfl rfl rfl), List.nil_sublist _, rfl, rfl⟩
  · intro h i D e c hc hInv; exact hInv.elim
theorem qadd2_spec [Tab G] {b c : Bool} {l d m e : List Nat} {p q : Rat} {k j : Nat} [hx : IsQ b l d p k] [hy : IsQ c m e q j] (hs : 100 * (k + j) + 20000 ≤ cap := by decide) : PSpec Tryz.prog G 74 [slS 3 id [[boolS b, natS l, natS d], [boolS c, natS m, natS e]]] (aggS (canQ (p + q))) := by
  have h := qadd_spec (G := G) (xs := [(b, l, d), (c, m, e)]) (by intro x hp; rcases List.mem_cons.1 hp with rfl | hp; exact ⟨hx.lim, hx.limd⟩; rw [List.mem_singleton.1 hp]; exact ⟨hy.lim, hy.limd⟩) (by have := hx.len; have := hy.len; have := hx.lend; have := hy.lend; have := hx.pos; have := hy.pos; simp only [sqs, qsz, List.length_cons, List.length_nil, List.take, List.map, List.sum_cons, List.sum_nil]; omega)
  have ee : [(b, l, d), (c, m, e)].foldl (fun z p => z + qv p) 0 = p + q := by show 0 + mkRat (sgn b (val l)) (val d) + mkRat (sgn c (val m)) (val e) = _; rw [hx.val, hy.val, Rat.zero_add]
  rw [ee] at h
  exact h.args ⟨fun I v hv => sl_pair [(b, l, d), (c, m, e)] hv, trivial⟩
theorem qmul_spec [Tab G] {xs : List (Bool × List Nat × List Nat)} (hl : ∀ p ∈ xs, Lim p.2.1 ∧ Lim p.2.2) (hs : 100 * sqs xs xs.length + 18000 ≤ cap + 400) : PSpec Tryz.prog G 59 [slS 3 qc xs] (aggS (canQ (xs.foldl (fun z p => z * qv p) 1))) := by
  unfold cap at hs
  have hps : ∀ p ∈ xs, 2 * qsz p + 11000 ≤ cap := fun p hp => by
    obtain ⟨i, hi⟩ := List.getElem?_of_mem hp
    have h1 := sqs_succ hi
    have h2 := sqs_le xs (i + 1)
    unfold cap; omega
  refine fn_spec Tryz.func59 rfl rfl rfl ?_
  refine T_regionS ?_
  refine Run.alloc rfl rfl rfl rfl rfl fun b2 => ?_
  refine Run.nil ?_
  refine T_regionS ?_
  refine Run.one (ok_call rfl rfl (qOf_spec (n := 1) (q := 1) (by decide) (by decide))) rfl rfl rfl ?_
  refine Run.one (ok_build rfl rfl rfl) rfl rfl rfl ?_
  refine Run.box rfl rfl rfl rfl rfl rfl fun bn => ?_
  refine Run.alloc rfl rfl rfl rfl rfl fun b3 => ?_
  refine Run.store 0 rfl rfl rfl rfl rfl rfl rfl rfl rfl ?_
  refine Run.nil ?_
  refine T_seq ?_
  refine T_regionS ?_
  refine Run.one (ok_move rfl rfl) rfl rfl rfl ?_
  refine Run.one (ok_call rfl rfl qall_spec) rfl rfl rfl ?_
  refine Run.nil ?_
  refine T_block ?_
  refine T_rng rfl rfl (qall1_spec hl hps) (fun ss h => allQ_ss h) (by decide) rfl
      (fun k h i => i = (0, false) ∧ k ≤ xs.length ∧ Bq ((xs.take k).foldl (fun z p => z * qv p) 1) (sqs xs k + 1) ∧ h = [⟨some b3, 81, [eqS (.pointer (some ⟨bn, 0, none⟩))], 0⟩, ⟨some bn, 80, canQ ((xs.take k).foldl (fun z p => z * qv p) 1), 0⟩, ⟨some b2, 27, [eqS (.bool false), eqS (.slice none 0 0), eqS (.slice none 0 0)], 0⟩])
      (fun _ _ _ => False) ⟨rfl, Nat.zero_le _, by rw [List.take_zero]; exact bq_le (l := sqs xs 0 + 1) (show Bq 1 1 from inferInstance) (by omega), rfl⟩ ?_ ?_ ?_
  · rintro l k ss h i hk ⟨rfl, _, hbz, rfl⟩
    obtain ⟨p, hp, rfl⟩ := allQ_inv hk
    have hlt := lt_of_get hp
    obtain ⟨acc, hacc⟩ : ∃ acc, acc = (xs.take k).foldl (fun z p => z * qv p) 1 := ⟨_, rfl⟩
    have hfs := foldl_take (fun z p => z * qv p) 1 hp
    have hs1 := sqs_succ hp
    have hs2 := sqs_le xs (k + 1)
    rw [← hacc] at hbz hfs ⊢
    have hpm := List.mem_of_getElem? hp
    have i2 : Bq (qv p) (qsz p) := (isQ_of (b := p.1) (hl p hpm).1 (hl p hpm).2).bq
    refine T_region ?_
    refine Run.one (ok_assign rfl rfl) rfl rfl rfl ?_
    refine Run.nil ?_
    refine ⟨rfl, ?_⟩
    refine T_block ?_
    refine T_region ?_
    refine Run.one (ok_load_own 0 rfl rfl rfl rfl) rfl rfl rfl ?_
    refine Run.one (ok_move rfl rfl) rfl rfl rfl ?_
    refine Run.call1 1 rfl rfl rfl rfl (qnmul_spec (by unfold cap; omega)) rfl rfl rfl ?_
    rintro s1 H1 ⟨rfl, rfl⟩
    refine Run.nil ?_
    refine ⟨rfl, by omega, ?_, by rw [hfs]; rfl⟩
    rw [hfs, hs1]; exact bq_le (bq_mul (hp := hbz) (hq := i2)) (by omega)
  · rintro h i D ⟨rfl, _, hbz, rfl⟩
    rw [allQ_length, List.take_length]
    refine T_regionS ?_
    refine Run.one (ok_load_own 0 rfl rfl rfl rfl) rfl rfl rfl ?_
    refine Run.one (ok_nilCheck_eq rfl rfl) rfl rfl rfl ?_
    refine Run.one (ok_fieldAddr_eq rfl rfl rfl) rfl rfl rfl ?_
    refine Run.one (ok_load_own_agg 1 rfl rfl rfl rfl rfl) rfl rfl rfl ?_
    refine Run.store 2 rfl rfl rfl rfl rfl rfl rfl rfl rfl ?_
    refine Run.nil ?_
    refine T_ret ?_
    exact ⟨_, [], .one (.agg 2 inferInstance rfl rfl rfl rfl), List.nil_sublist _, rfl, rfl⟩
  · intro h i D e c hc hInv; exact hInv.elim
theorem qmul2_spec [Tab G] {b c : Bool} {l d m e : List Nat} {p q : Rat} {k j : Nat} [hx : IsQ b l d p k] [hy : IsQ c m e q j] (hs : 100 * (k + j) + 20000 ≤ cap := by decide) : PSpec Tryz.prog G 59 [slS 3 id [[boolS b, natS l, natS d], [boolS c, natS m, natS e]]] (aggS (canQ (p * q))) := by
  have h := qmul_spec (G := G) (xs := [(b, l, d), (c, m, e)]) (by intro x hp; rcases List.mem_cons.1 hp with rfl | hp; exact ⟨hx.lim, hx.limd⟩; rw [List.mem_singleton.1 hp]; exact ⟨hy.lim, hy.limd⟩) (by have := hx.len; have := hy.len; have := hx.lend; have := hy.lend; have := hx.pos; have := hy.pos; simp only [sqs, qsz, List.length_cons, List.length_nil, List.take, List.map, List.sum_cons, List.sum_nil]; omega)
  have ee : [(b, l, d), (c, m, e)].foldl (fun z p => z * qv p) 1 = p * q := by show 1 * mkRat (sgn b (val l)) (val d) * mkRat (sgn c (val m)) (val e) = _; rw [hx.val, hy.val, Rat.one_mul]
  rw [ee] at h
  exact h.args ⟨fun I v hv => sl_pair [(b, l, d), (c, m, e)] hv, trivial⟩
theorem qsub_spec [Tab G] {b c : Bool} {l d m e : List Nat} {p q : Rat} {k j : Nat} [hx : IsQ b l d p k] [hy : IsQ c m e q j] (hs : 100 * (k + j) + 20000 ≤ cap := by decide) : PSpec Tryz.prog G 58 [aggS [boolS b, natS l, natS d], aggS [boolS c, natS m, natS e]] (aggS (canQ (p - q))) := by
  have i1 := hx.bq
  have i2 := hy.bq
  refine fn_spec Tryz.func58 rfl rfl rfl ?_
  refine T_regionS ?_
  refine Run.one (ok_box rfl rfl) rfl rfl rfl ?_
  refine Run.one (ok_box rfl rfl) rfl rfl rfl ?_
  refine Run.alloc rfl rfl rfl rfl rfl fun b4 => ?_
  refine Run.nil ?_
  refine T_drawS 5 (by kernel_rfl) ?_
  refine Run.one (ok_load_agg rfl rfl rfl rfl) rfl rfl rfl ?_
  refine Run.one (ok_load_agg rfl rfl rfl rfl) rfl rfl rfl ?_
  refine Run.one (ok_call rfl rfl (qneg_spec (by omega))) rfl rfl rfl ?_
  refine Run.one (ok_buildSlice rfl rfl (by decide) rfl (by simp) rfl rfl) rfl rfl rfl ?_
  refine Run.one ((ok_call rfl rfl (qadd2_spec hs)).sub (show ∀ I v, (aggS (canQ (p + -q))).den I v → (aggS (canQ (p - q))).den I v from fun I v h => by rw [Rat.sub_eq_add_neg]; exact h)) rfl rfl rfl ?_
  refine Run.nil ?_
  refine Run.store 0 rfl rfl rfl rfl rfl rfl rfl rfl rfl ?_
  refine Run.nil ?_
  refine T_ret ?_
  exact ⟨_, [], .one (.agg 0 inferInstance rfl rfl rfl rfl), List.nil_sublist _, rfl, rfl⟩
end Go.Proofs
