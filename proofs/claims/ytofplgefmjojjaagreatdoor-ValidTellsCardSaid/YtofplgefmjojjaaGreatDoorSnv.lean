/- Rationals: straitref07. -/
import Derived.Test.YtofplgefmjojjaaGreatDoorSns
import Derived.Test.YtofplgefmjojjaaGreatDoorSv1
namespace Go.Proofs
open Go Go.Sv Num
variable {G : Imm}
theorem tri_zero {p q : Rat} : (tri p q == 0) = decide (p = q) := by
 unfold tri
 by_cases h1 : p < q
 ·rw [if_pos h1, decide_eq_false (fun h => Rat.lt_irrefl (h ▸ h1))]; rfl
 ·rw [if_neg h1]
  by_cases h2 : q < p
  ·rw [if_pos h2, decide_eq_false (fun h => Rat.lt_irrefl (h ▸ h2))]; rfl
  ·rw [if_neg h2, decide_eq_true (Rat.le_antisymm (Rat.not_lt.1 h2) (Rat.not_lt.1 h1))]; rfl
theorem sign_tri {q : Rat} : q.num.sign = tri q 0 := by
 rw [← cmp_sign]; simp
theorem mkRat_sign {z : Int} {d : Nat} (hd : d ≠ 0) : (mkRat z d).num.sign = z.sign := by
 have h3 := mkRat_num (b := decide (z < 0)) (a := z.natAbs) hd
 have h4 := mkRat_neg (b := decide (z < 0)) (a := z.natAbs) hd
 have h5 : (mkRat z d).num = 0 ↔ z = 0 := by
  rw [Rat.num_eq_zero]; exact Rat.mkRat_eq_zero hd
 rw [sgn_self] at h4
 by_cases hz : z < 0
 ·have h6 : (mkRat z d).num < 0 := by
   rw [decide_eq_true hz, Bool.true_and, decide_eq_true (show z.natAbs ≠ 0 by omega)] at h4; exact of_decide_eq_true h4
  rw [Int.sign_eq_neg_one_of_neg hz, Int.sign_eq_neg_one_of_neg h6]
 ·have h6 : ¬ (mkRat z d).num < 0 := by
   rw [decide_eq_false hz, Bool.false_and] at h4; exact of_decide_eq_false h4
  by_cases h0 : z = 0
  ·rw [h0, Rat.zero_mkRat]; rfl
  ·rw [Int.sign_eq_one_of_pos (by omega), Int.sign_eq_one_of_pos (by have := mt h5.1 h0; omega)]
theorem inv_mk (q : Rat) : q⁻¹ = mkRat (sgn (decide (q.num < 0)) q.den) q.num.natAbs := by
 rw [Rat.inv_def]
 obtain ⟨n, hn⟩ : ∃ n, n = q.num := ⟨_, rfl⟩
 rw [← hn]
 rcases Int.lt_or_le n 0 with h | h
 ·obtain ⟨m, rfl⟩ : ∃ m : Nat, n = -(m : Int) := ⟨n.natAbs, by omega⟩
  rw [Rat.divInt_neg', Rat.divInt_ofNat, decide_eq_true h, Int.natAbs_neg, Int.natAbs_natCast]; rfl
 ·obtain ⟨m, rfl⟩ : ∃ m : Nat, n = (m : Int) := ⟨n.natAbs, by omega⟩
  rw [Rat.divInt_ofNat, decide_eq_false (by omega), Int.natAbs_natCast]; rfl
theorem quo_mk (p q : Rat) : mkRat (p.num * sgn (decide (q.num < 0)) q.den) (p.den * q.num.natAbs) = p / q := by
 rw [Rat.div_def, inv_mk q, ← Rat.mkRat_mul_mkRat, Rat.mkRat_self]
instance bq_div {p q : Rat} {k j : Nat} [hp : Bq p k] [hq : Bq q j] : Bq (p / q) (k + j) := by
 rw [← quo_mk]
 exact bq_mkRat (by rw [Int.natAbs_mul, sgn_natAbs, Nat.pow_add]; exact Nat.mul_lt_mul'' hp.num hq.den) (by rw [Nat.pow_add]; exact Nat.mul_lt_mul'' hp.den hq.num) (by have := hp.pos; omega)
theorem IsQ.z {b : Bool} {l d : List Nat} {q : Rat} {k : Nat} (h : IsQ b l d q k) : IsZ b l (sgn b (Num.val l)) k := ⟨h.lim, rfl, h.len⟩
theorem rover_spec {l : List Nat} : PSpec Tryz.prog G 67 [natS l] (aggS [boolS false, natS l]) := by
 refine zs Tryz.func67 ?_;refine zr ?_;refine zzv fun b2 => ?_;refine zx ?_;(iterate 2 refine zz ?_);refine zw ?_;refine zzn ?_;refine T_ret ?_
 exact ⟨_, [], .one (.agg 0 inferInstance rfl rfl rfl rfl), List.nil_sublist _, rfl, rfl⟩
theorem rqOf_spec {n : Int} {q : Rat} (h1 : -9223372036854775808 ≤ n) (h2 : n ≤ 9223372036854775807) (hq : (n : Rat) = q := by rfl) : PSpec Tryz.prog G 26 [intS .i64 n] (aggS (canQ q)) := by
 refine zs Tryz.func26 ?_;refine zr ?_;refine zzv fun b2 => ?_;refine zx ?_;refine zz ?_;refine zf (rzOf_spec h1 h2) ?_;refine zo (ok_buildNat [1] rfl rfl (by decide) rfl (by simp) rfl rfl rfl) ?_;refine zz ?_;refine zw ?_;refine zzn ?_;refine T_ret ?_
 exact ⟨_, [], .one (.agg 0 inferInstance rfl rfl rfl rfl), List.nil_sublist _, by rw [← hq]; show _ = aggS [boolS (decide (n < 0)), natS (dig n.natAbs), natS (dig 1)]; rw [dig_one]; rfl, rfl⟩
theorem rnew_spec {b : Bool} {l d : List Nat} {z : Int} {n k j : Nat} [h : IsZ b l z k] [hd : IsNat d n] [hk : Sz d j] (hs : 64 * max k j + 2000 ≤ 131072 := by decide) : PSpec Tryz.prog G 106 [aggS [boolS b, natS l], natS d] (tupS [aggS (canQ (mkRat z n)), intS .i64 (if n = 0 then 30 else 0)]) := by
 have hlen := h.len
 have hlend := hk.h
 have hb := h.bz.len
 refine zs Tryz.func106 ?_;refine zr ?_;refine Run.box rfl rfl rfl rfl rfl rfl fun b2 => ?_;refine zzv fun b4 => ?_;refine zz ?_;refine zzn ?_;refine T_seq ?_;refine zr ?_;refine zz ?_;refine zo (ok_call rfl rfl (rtrim_spec (by unfold cap; omega))) ?_;(iterate 2 refine zz ?_);refine zzn ?_;refine zzc (fun h21 => ?_) fun h21 => ?_
 ·have k21 := beq_iff_eq.1 h21
  have hn0 : n = 0 := dig_len_zero.1 (by omega)
  refine zr ?_;refine zo (ok_call rfl rfl (rqOf_spec (n := 0) (q := mkRat z n) (by decide) (by decide) (by rw [hn0, Rat.mkRat_zero]; rfl))) ?_;refine zw ?_;refine zz ?_;refine zzn ?_;refine T_ret ?_
  exact ⟨_, [], .many (.cons (.agg 0 inferInstance rfl rfl rfl rfl) (.cons (.tmp rfl) (.nil))), List.nil_sublist _, by rw [if_pos hn0]; rfl, rfl⟩
 ·have k21 := beq_eq_false_iff_ne.1 h21
  have hn0 : n ≠ 0 := fun h0 => k21 (by rw [h0, dig_zero]; rfl)
  have hnp := Nat.pos_of_ne_zero hn0
  obtain ⟨x, hx⟩ : ∃ x, x = z.natAbs := ⟨_, rfl⟩
  obtain ⟨g, hg⟩ : ∃ g, g = Nat.gcd x n := ⟨_, rfl⟩
  have hg0 : 0 < g := by rw [hg]; exact Nat.gcd_pos_of_pos_right _ hnp
  have hqn := mkRat_num (b := decide (z < 0)) (a := z.natAbs) hn0
  have hqd := mkRat_den (b := decide (z < 0)) (a := z.natAbs) hn0
  rw [sgn_self, ← hx, ← hg] at hqn hqd
  obtain ⟨q, hq⟩ : ∃ q, q = mkRat z n := ⟨_, rfl⟩
  rw [← hq] at hqn hqd ⊢
  have hxg : x / g ≤ x := Nat.div_le_self _ _
  have hng : n / g ≤ n := Nat.div_le_self _ _
  have hxl : x < 4294967296 ^ k := by rw [hx]; exact h.bz.h
  have i1 : IsZ (decide (z < 0)) (dig (x / g)) q.num k := ⟨lim_dig _, by rw [val_dig, hqn], dig_length_le (Nat.lt_of_le_of_lt hxg hxl)⟩
  refine T_skip ?_;refine zr ?_;refine zz ?_;refine zo (ok_call rfl rfl (rznorm_spec (by unfold cap; omega))) ?_;refine zw ?_;refine zx ?_;(iterate 2 refine zz ?_);refine zo (ok_call rfl rfl (rsmall_spec (by unfold cap; omega))) ?_;(iterate 5 refine zz ?_);refine zx ?_;refine zz ?_;refine zo (ok_call rfl rfl (rsmall_spec (by unfold cap; omega))) ?_;(iterate 5 refine zz ?_);refine zzn ?_;refine T_seqQ (K := fun S1 => Ent S1 (⟨82, [(5, intS .i64 0), (4, eqS (.pointer (some ⟨b4, 0, none⟩))), (2, eqS (.pointer (some ⟨b2, 0, none⟩))), (1, natS d)], [⟨some b4, 28, [eqS (.bool false), eqS (.slice none 0 0), eqS (.slice none 0 0)], 0⟩, ⟨some b2, 26, canI z, 0⟩], [], (0, false)⟩)) ?_ ?_
  ·refine zr ?_
   refine Run.oneB (ok_move rfl rfl) rfl rfl rfl (fun h6_0 => ?_) (fun h6_0 => ?_)
   ·refine zz ?_;(iterate 2 refine zz ?_);refine zzn ?_;refine zzc (fun h39 => ?_) fun h39 => ?_
    ·have hx64 : x < 18446744073709551616 := by rw [hx]; exact of_decide_eq_true h6_0
     have hn64 : n < 18446744073709551616 := of_decide_eq_true h39
     refine zr ?_;refine zo ((ok_move rfl rfl).sub (int_eq (n := ((x : Nat) : Int)) (by rw [← hx, if_pos hx64]))) ?_;refine zo ((ok_move rfl rfl).sub (int_eq (n := ((n : Nat) : Int)) (if_pos hn64))) ?_;refine zo ((ok_call rfl rfl (rplain_spec hx64 hn64)).sub (int_eq (n := ((g : Nat) : Int)) (by rw [hg]))) ?_;refine zz ?_;refine zzn ?_;refine T_drawS 13 (by kernel_rfl) ?_;(iterate 2 refine zz ?_);refine zo ((ok_move rfl rfl).sub (int_eq (n := ((x : Nat) : Int)) (by rw [← hx, if_pos hx64]))) ?_;refine zz ?_;refine zo ((ok_quo rfl rfl rfl (by omega) (by omega) (by have := Nat.div_le_self x g; rw [← Int.natCast_ediv]; exact wrap_u64 (Int.natCast_nonneg _) (by omega))).sub (int_eq (n := ((x / g : Nat) : Int)) (Int.natCast_ediv _ _).symm)) ?_;refine zo (ok_call rfl rfl (rof_spec (by omega))) ?_;refine zz ?_;refine zo (ok_call rfl rfl (rznorm_spec (by unfold cap; omega))) ?_;refine zo ((ok_move rfl rfl).sub (int_eq (n := ((n : Nat) : Int)) (if_pos hn64))) ?_;refine zz ?_;refine zo ((ok_quo rfl rfl rfl (by omega) (by omega) (by have := Nat.div_le_self n g; rw [← Int.natCast_ediv]; exact wrap_u64 (Int.natCast_nonneg _) (by omega))).sub (int_eq (n := ((n / g : Nat) : Int)) (Int.natCast_ediv _ _).symm)) ?_;refine zo (ok_call rfl rfl (rof_spec (by omega))) ?_;refine zz ?_;refine zzn ?_;refine zw ?_;refine zz ?_;refine zzn ?_;refine T_ret ?_
     exact ⟨_, [], .many (.cons (.agg 0 inferInstance rfl rfl rfl rfl) (.cons (.tmp rfl) (.nil))), List.nil_sublist _, by rw [if_neg hn0, ← hqd]; rfl, rfl⟩
    ·refine T_skip ?_
     exact ent_h zk rfl
   ·refine zz ?_;refine zq ?_;refine zz ?_;refine zzn ?_;refine T_condF rfl rfl ?_;refine T_skip ?_
    exact ent_h zk rfl
  ·intro S1 hS1
   refine T_pre hS1 ?_;refine zr ?_;(iterate 3 refine zz ?_);refine zo ((ok_call rfl rfl (rgcd_spec (by omega))).sub (show ∀ I v, (natS (dig (Nat.gcd z.natAbs n))).den I v → (natS (dig g)).den I v from fun I v h => by rw [← hx, ← hg] at h; exact h)) ?_
   have hgl : (dig g).length ≤ j := dig_length_le (Nat.lt_of_le_of_lt (by rw [hg]; exact Nat.gcd_le_right _ hnp) (by have h1 := val_lt hd.lim; rw [hd.val] at h1; exact Nat.lt_of_lt_of_le h1 (Nat.pow_le_pow_right (by decide) hlend)))
   refine zz ?_;refine zx ?_;(iterate 3 refine zz ?_);refine zo (ok_call rfl rfl (rdiv_spec (by unfold cap; omega) (by unfold cap; omega))) ?_;refine zz ?_;refine zo ((ok_extract rfl rfl rfl).sub (show ∀ I v, (natS (dig (z.natAbs / g))).den I v → (natS (dig (x / g))).den I v from fun I v h => by rw [← hx] at h; exact h)) ?_;(iterate 5 refine zz ?_);refine zx ?_;(iterate 2 refine zz ?_);refine zo (ok_call rfl rfl (rdiv_spec (by unfold cap; omega) (by unfold cap; omega))) ?_;(iterate 7 refine zz ?_);refine zx ?_;(iterate 4 refine zz ?_);refine zo (ok_call rfl rfl (rznorm_spec (by unfold cap; omega))) ?_;(iterate 2 refine zz ?_);refine zw ?_;refine zz ?_;refine zzn ?_;refine T_ret ?_
   exact ⟨_, [], .many (.cons (.agg 0 inferInstance rfl rfl rfl rfl) (.cons (.tmp rfl) (.nil))), List.nil_sublist _, by rw [if_neg hn0, ← hqd]; rfl, rfl⟩
theorem rnewq_spec {b : Bool} {l d : List Nat} {q : Rat} {k : Nat} [h : IsQ b l d q k] (hs : 64 * k + 2000 ≤ 131072 := by decide) : PSpec Tryz.prog G 106 [aggS [boolS b, natS l], natS d] (tupS [aggS (canQ q), intS .i64 (if val d = 0 then 30 else 0)]) := by
 have i1 := h.z
 have i2 : IsNat d (val d) := isNat_of h.limd
 have i3 : Sz d k := ⟨h.lend⟩
 have := rnew_spec (G := G) (b := b) (l := l) (d := d) (z := sgn b (val l)) (n := val d) (k := k) (j := k) (by omega)
 rw [h.val] at this; exact this
theorem rqNorm_spec {b : Bool} {l d : List Nat} {q : Rat} {k : Nat} [h : IsQ b l d q k] (hs : 64 * k + 2000 ≤ 131072 := by decide) : PSpec Tryz.prog G 59 [aggS [boolS b, natS l, natS d]] (aggS (canQ q)) := by
 refine zs Tryz.func59 ?_;refine zr ?_;refine zz ?_;refine zzv fun b2 => ?_;refine zx ?_;(iterate 4 refine zz ?_);refine zf (rnewq_spec hs) ?_;(iterate 3 refine zz ?_);refine zzv fun b3 => ?_;refine zw ?_;refine zz ?_;refine zx ?_;refine zz ?_;refine zw ?_;refine zzn ?_;refine T_ret ?_
 exact ⟨_, [], .one (.agg 1 inferInstance rfl rfl rfl rfl), List.nil_sublist _, rfl, rfl⟩
theorem rqSign_spec {b : Bool} {l d : List Nat} {q : Rat} {k : Nat} [h : IsQ b l d q k] (hs : 64 * k + 2000 ≤ 131072 := by decide) : PSpec Tryz.prog G 24 [aggS [boolS b, natS l, natS d]] (intS .i64 (tri q 0)) := by
 have i1 := h.z
 have i2 : IsNat d (val d) := isNat_of h.limd
 have hlend := h.lend
 have hv := h.val
 rw [← sign_tri]
 refine zs Tryz.func24 ?_;refine zr ?_;(iterate 2 refine zz ?_);refine zzn ?_;refine T_seq ?_;refine zr ?_;(iterate 2 refine zz ?_);refine zo (ok_call rfl rfl (rtrim_spec (by unfold cap; omega))) ?_;(iterate 2 refine zz ?_);refine zzn ?_;refine zzc (fun h7 => ?_) fun h7 => ?_
 ·have k7 := beq_iff_eq.1 h7
  have hd0 : val d = 0 := dig_len_zero.1 (by omega)
  rw [hd0, Rat.mkRat_zero] at hv
  refine zr ?_;refine zz ?_;refine zzn ?_;refine T_ret ?_
  exact ⟨_, [], .one (.tmp rfl), List.nil_sublist _, by rw [← hv]; rfl, rfl⟩
 ·have k7 := beq_eq_false_iff_ne.1 h7
  have hd0 : val d ≠ 0 := fun h0 => k7 (by rw [h0, dig_zero]; rfl)
  refine T_skip ?_;refine zr ?_;(iterate 2 refine zz ?_);refine zo ((ok_call rfl rfl (rzSign_spec (by unfold cap; omega))).sub (int_eq (n := q.num.sign) (by rw [← hv, mkRat_sign hd0]))) ?_;refine zz ?_;refine zzn ?_;refine T_ret ?_
  exact ⟨_, [], .one (.tmp rfl), List.nil_sublist _, rfl, rfl⟩
theorem rqtwo_spec {p q : Rat} {k j : Nat} [hx : Bq p k] [hy : Bq q j] (hs : 64 * (k + j) + 2100 ≤ 131072 := by decide) : PSpec Tryz.prog G 102 [aggS (canQ p), aggS (canQ q)] (aggS (canQ (p + q))) := by
 have i1 := hx.bz
 have i2 := hx.bd
 have i3 := hy.bz
 have i4 := hy.bd
 obtain ⟨g1, g2, g3⟩ := cross_lt hx hy
 have i5 : Bz (p.num * (q.den : Int) + q.num * (p.den : Int)) (k + j + 1) := ⟨Nat.lt_of_le_of_lt (Int.natAbs_add_le _ _) (dbl_lt g1 g2)⟩
 have hpl := hx.lens
 have hql := hy.lens
 refine zs Tryz.func102 ?_;refine zr ?_;(iterate 2 refine zz ?_);refine zzv fun b4 => ?_;refine zzn ?_;refine T_drawAS 25 (by kernel_rfl) rfl rfl ?_;refine RunE.lat (ok_fieldAddr rfl rfl rfl) rfl rfl rfl ?_;refine RunE.lat (ok_load_agg rfl rfl rfl rfl) rfl rfl rfl ?_;refine RunE.lat (ok_fieldAddr rfl rfl rfl) rfl rfl rfl ?_;refine RunE.lat (ok_load rfl rfl) rfl rfl rfl ?_;refine RunE.lat (ok_call rfl rfl rover_spec) rfl rfl rfl ?_;refine RunE.lat (ok_buildSlice rfl rfl (by decide) rfl (by simp) rfl rfl) rfl rfl rfl ?_;refine RunE.lat (ok_call rfl rfl (rzmul2_spec (by unfold cap; omega))) rfl rfl rfl ?_;refine RunE.lat (ok_fieldAddr rfl rfl rfl) rfl rfl rfl ?_;refine RunE.lat (ok_load_agg rfl rfl rfl rfl) rfl rfl rfl ?_;refine RunE.lat (ok_fieldAddr rfl rfl rfl) rfl rfl rfl ?_;refine RunE.lat (ok_load rfl rfl) rfl rfl rfl ?_;refine RunE.lat (ok_call rfl rfl rover_spec) rfl rfl rfl ?_;refine RunE.lat (ok_buildSlice rfl rfl (by decide) rfl (by simp) rfl rfl) rfl rfl rfl ?_;refine RunE.lat (ok_call rfl rfl (rzmul2_spec (by unfold cap; omega))) rfl rfl rfl ?_;refine RunE.lat (ok_buildSlice rfl rfl (by decide) rfl (by simp) rfl rfl) rfl rfl rfl ?_;refine RunE.lat (ok_call rfl rfl (rzadd2_spec (by unfold cap; omega))) rfl rfl rfl ?_;refine RunE.lat (ok_fieldAddr rfl rfl rfl) rfl rfl rfl ?_;refine RunE.lat (ok_load rfl rfl) rfl rfl rfl ?_;refine RunE.lat (ok_fieldAddr rfl rfl rfl) rfl rfl rfl ?_;refine RunE.lat (ok_load rfl rfl) rfl rfl rfl ?_;refine RunE.lat (ok_call rfl rfl (rmul_spec (by unfold cap; omega))) rfl rfl rfl ?_;refine RunE.lat (ok_call rfl rfl (rnew_spec (by omega))) rfl rfl rfl ?_;refine RunE.lat (ok_move rfl rfl) rfl rfl rfl ?_;(iterate 2 refine RunE.lat (ok_extract rfl rfl rfl) rfl rfl rfl ?_);refine RunE.nil ?_;refine EffAA.mk1 rfl rfl rfl rfl rfl rfl rfl rfl (by intro h; cases h) rfl rfl rfl fun b5 => ?_;refine zz ?_;refine zx ?_;refine zz ?_;refine zw ?_;refine zzn ?_;refine T_ret ?_
 exact ⟨_, [], .one (.agg 1 inferInstance rfl rfl rfl rfl), List.nil_sublist _, by rw [Rat.add_def']; rfl, rfl⟩
theorem rqneg_spec {b : Bool} {l d : List Nat} {q : Rat} {k : Nat} [h : IsQ b l d q k] (hs : 64 * k + 2000 ≤ 131072 := by decide) : PSpec Tryz.prog G 18 [aggS [boolS b, natS l, natS d]] (aggS (canQ (-q))) := by
 have i1 := h.bq.bz
 refine zs Tryz.func18 ?_;refine zr ?_;refine Run.box rfl rfl rfl rfl rfl rfl fun b1 => ?_;refine zzv fun b2 => ?_;refine zx ?_;refine zz ?_;refine zf (rqNorm_spec hs) ?_;refine zw ?_;refine zzn ?_;refine T_drawS 6 (by kernel_rfl) ?_;(iterate 2 refine zz ?_);refine zo (ok_call rfl rfl (rzneg_spec (by unfold cap; omega))) ?_;(iterate 3 refine zz ?_);refine zzn ?_;refine zw ?_;refine zzn ?_;refine T_ret ?_
 exact ⟨_, [], .one (.agg 0 inferInstance rfl rfl rfl rfl), List.nil_sublist _, rfl, rfl⟩
theorem rqadd_spec {xs : List (Bool × List Nat × List Nat)} (hl : ∀ p ∈ xs, Lim p.2.1 ∧ Lim p.2.2) (hs : 64 * sqs xs xs.length + 3000 ≤ 131072) : PSpec Tryz.prog G 55 [slS 3 qc xs] (aggS (canQ (xs.foldl (fun z p => z + qv p) 0))) := by
 refine zs Tryz.func55 ?_;refine zr ?_;refine zzv fun b2 => ?_;refine zx ?_;refine zo (ok_call rfl rfl (rqOf_spec (n := 0) (q := 0) (by decide) (by decide))) ?_;refine zzv fun b3 => ?_;refine zw ?_;refine zzn ?_;refine T_seq ?_;refine zr ?_;refine zz ?_;refine zzn ?_;refine T_block ?_;refine T_len 0 rfl fun la => ?_
 unfold big at la
 refine T_loop2 (fun (i : Nat) (acc : Rat) => ⟨_, [(4, intS .i64 (i : Nat)), (3, eqS (.pointer (some ⟨b3, 0, none⟩))), (2, eqS (.pointer (some ⟨b2, 0, none⟩))), (0, slS 3 qc xs)], [⟨some b3, 28, canQ acc, 0⟩, ⟨some b2, 28, [eqS (.bool false), eqS (.slice none 0 0), eqS (.slice none 0 0)], 0⟩], [], (0, false)⟩)
   (fun i acc => i ≤ xs.length ∧ acc = (xs.take i).foldl (fun z p => z + qv p) 0 ∧ Bq acc (sqs xs i + 1)) (fun i acc => xs.length - i)
   0 0 ⟨Nat.zero_le _, rfl, bq_le (l := sqs xs 0 + 1) (show Bq 0 1 from inferInstance) (by omega)⟩ (ent_h zk rfl) ?_
 rintro i acc ⟨hi, hacc, hbz⟩
 refine T_seq ?_;refine zr ?_;(iterate 4 refine zz ?_);refine zzn ?_;refine zzc (fun h9 => ?_) fun h9 => ?_
 ·have k9 := of_decide_eq_true h9
  obtain ⟨⟨b, m, d⟩, hp⟩ : ∃ p, xs[i]? = some p := ⟨_, List.getElem?_eq_getElem (by omega)⟩
  have hpm : (b, m, d) ∈ xs := List.mem_of_getElem? hp
  have i1 : IsQ b m d (qv (b, m, d)) (qsz (b, m, d)) := isQ_of (hl _ hpm).1 (hl _ hpm).2
  have i2 := i1.bq
  have hs1 := sqs_succ hp
  have hs2 := sqs_le xs (i + 1)
  refine T_skip ?_;refine T_seq ?_;refine T_block ?_;refine T_draw 7 (by kernel_rfl) ?_;(iterate 3 refine zz ?_);refine zo (ok_indexAddr rfl rfl rfl (by omega) (y := (b, m, d)) (hp)) ?_;refine zo ((show OpOK _ _ _ _ _ (aggS [boolS b, natS m, natS d]) from ok_load_agg rfl rfl rfl rfl)) ?_;refine zo (ok_call rfl rfl (rqNorm_spec (by omega))) ?_;refine zo (ok_call rfl rfl (rqtwo_spec (by omega))) ?_;refine zzn ?_;refine zw ?_;refine zzn ?_;refine T_region ?_;(iterate 3 refine zz ?_);refine zzn ?_
  exact ⟨i + 1, acc + qv (b, m, d), ⟨by omega, by rw [hacc, foldl_take (fun z p => z + qv p) 0 hp], bq_le (bq_add (hp := hbz) (hq := i2)) (by omega)⟩, by omega, ent_h (subG_cons rfl (subG_cons rfl (subG_cons rfl (subG_cons rfl (trivial))))) rfl⟩
 ·have k9 := of_decide_eq_false h9
  have hie : i = xs.length := by omega
  rw [hie, List.take_length] at hacc
  refine T_exit ?_;refine zr ?_;refine zz ?_;refine zw ?_;refine zzn ?_;refine T_ret ?_
  exact ⟨_, [], .one (.agg 1 inferInstance rfl rfl rfl rfl), List.nil_sublist _, by rw [hacc]; rfl, rfl⟩
theorem rqadd2_spec {b c : Bool} {l d m e : List Nat} {p q : Rat} {k j : Nat} [hx : IsQ b l d p k] [hy : IsQ c m e q j] (hs : 64 * (k + j) + 4000 ≤ 131072 := by decide) : PSpec Tryz.prog G 55 [slS 3 id [[boolS b, natS l, natS d], [boolS c, natS m, natS e]]] (aggS (canQ (p + q))) := by
 have h := rqadd_spec (G := G) (xs := [(b, l, d), (c, m, e)]) (by intro x hp; rcases List.mem_cons.1 hp with rfl | hp; exact ⟨hx.lim, hx.limd⟩; rw [List.mem_singleton.1 hp]; exact ⟨hy.lim, hy.limd⟩) (by have := hx.len; have := hy.len; have := hx.lend; have := hy.lend; have := hx.pos; have := hy.pos; simp only [sqs, qsz, List.length_cons, List.length_nil, List.take, List.map, List.sum_cons, List.sum_nil]; omega)
 have ee : [(b, l, d), (c, m, e)].foldl (fun z p => z + qv p) 0 = p + q := by show 0 + mkRat (sgn b (val l)) (val d) + mkRat (sgn c (val m)) (val e) = _; rw [hx.val, hy.val, Rat.zero_add]
 rw [ee] at h
 exact h.args ⟨fun I v hv => sl_pair [(b, l, d), (c, m, e)] hv, trivial⟩
theorem rqmul_spec {xs : List (Bool × List Nat × List Nat)} (hl : ∀ p ∈ xs, Lim p.2.1 ∧ Lim p.2.2) (hs : 64 * sqs xs xs.length + 3000 ≤ 131072) : PSpec Tryz.prog G 110 [slS 3 qc xs] (aggS (canQ (xs.foldl (fun z p => z * qv p) 1))) := by
 refine zs Tryz.func110 ?_;refine zr ?_;refine zzv fun b2 => ?_;refine zx ?_;refine zo (ok_call rfl rfl (rqOf_spec (n := 1) (q := 1) (by decide) (by decide))) ?_;refine zzv fun b3 => ?_;refine zw ?_;refine zzn ?_;refine T_seq ?_;refine zr ?_;refine zz ?_;refine zzn ?_;refine T_block ?_;refine T_len 0 rfl fun la => ?_
 unfold big at la
 refine T_loop2 (fun (i : Nat) (acc : Rat) => ⟨_, [(4, intS .i64 (i : Nat)), (3, eqS (.pointer (some ⟨b3, 0, none⟩))), (2, eqS (.pointer (some ⟨b2, 0, none⟩))), (0, slS 3 qc xs)], [⟨some b3, 28, canQ acc, 0⟩, ⟨some b2, 28, [eqS (.bool false), eqS (.slice none 0 0), eqS (.slice none 0 0)], 0⟩], [], (0, false)⟩)
   (fun i acc => i ≤ xs.length ∧ acc = (xs.take i).foldl (fun z p => z * qv p) 1 ∧ Bq acc (sqs xs i + 1)) (fun i acc => xs.length - i)
   0 1 ⟨Nat.zero_le _, rfl, bq_le (l := sqs xs 0 + 1) (show Bq 1 1 from inferInstance) (by omega)⟩ (ent_h zk rfl) ?_
 rintro i acc ⟨hi, hacc, hbz⟩
 refine T_seq ?_;refine zr ?_;(iterate 4 refine zz ?_);refine zzn ?_;refine zzc (fun h10 => ?_) fun h10 => ?_
 ·have k10 := of_decide_eq_true h10
  obtain ⟨⟨b, m, d⟩, hp⟩ : ∃ p, xs[i]? = some p := ⟨_, List.getElem?_eq_getElem (by omega)⟩
  have hpm : (b, m, d) ∈ xs := List.mem_of_getElem? hp
  have i1 : IsQ b m d (qv (b, m, d)) (qsz (b, m, d)) := isQ_of (hl _ hpm).1 (hl _ hpm).2
  have i2 := i1.bq
  have hs1 := sqs_succ hp
  have hs2 := sqs_le xs (i + 1)
  obtain ⟨x, hxe⟩ : ∃ x, x = qv (b, m, d) := ⟨_, rfl⟩
  rw [← hxe] at i1 i2
  have j1 := hbz.bz
  have j2 := hbz.bd
  have j3 := i2.bz
  have j4 := i2.bd
  have j5 := hbz.lens
  have j6 := i2.lens
  refine T_skip ?_;refine T_seq ?_;refine T_block ?_;refine zr ?_;(iterate 2 refine zz ?_);refine zo (ok_indexAddr rfl rfl rfl (by omega) (y := (b, m, d)) (hp)) ?_;refine zo ((show OpOK _ _ _ _ _ (aggS [boolS b, natS m, natS d]) from ok_load_agg rfl rfl rfl rfl)) ?_;refine zo (ok_call rfl rfl (rqNorm_spec (by omega))) ?_;refine zzv fun b5 => ?_;refine zw ?_;refine zzn ?_;refine T_drawE 15 _ (by kernel_rfl) rfl (.cons_cons _ (.cons _ (.cons_cons _ .slnil))) ?_;refine RunE.one (ok_fieldAddr_eq rfl rfl rfl) rfl rfl rfl (by kernel_rfl) ?_;refine RunE.one (ok_load_own_agg 1 rfl rfl rfl rfl rfl) rfl rfl rfl (by kernel_rfl) ?_;refine RunE.one (ok_fieldAddr_eq rfl rfl rfl) rfl rfl rfl (by kernel_rfl) ?_;refine RunE.one (ok_load_own_agg 0 rfl rfl rfl rfl rfl) rfl rfl rfl (by kernel_rfl) ?_;refine RunE.one (ok_buildSlice rfl rfl (by decide) rfl (by simp) rfl rfl) rfl rfl rfl (by kernel_rfl) ?_;refine RunE.one (ok_call rfl rfl (rzmul2_spec (by unfold cap; omega))) rfl rfl rfl (by kernel_rfl) ?_;refine RunE.one (ok_fieldAddr_eq rfl rfl rfl) rfl rfl rfl (by kernel_rfl) ?_;refine RunE.one (ok_load_own 1 rfl rfl rfl rfl) rfl rfl rfl (by kernel_rfl) ?_;refine RunE.one (ok_fieldAddr_eq rfl rfl rfl) rfl rfl rfl (by kernel_rfl) ?_;refine RunE.one (ok_load_own 0 rfl rfl rfl rfl) rfl rfl rfl (by kernel_rfl) ?_;refine RunE.one (ok_call rfl rfl (rmul_spec (by unfold cap; omega))) rfl rfl rfl (by kernel_rfl) ?_;refine RunE.one (ok_call rfl rfl (rnew_spec (by omega))) rfl rfl rfl (by kernel_rfl) ?_;refine RunE.one (ok_move rfl rfl) rfl rfl rfl (by kernel_rfl) ?_;refine RunE.one ((ok_extract rfl rfl rfl).sub (show ∀ I v, (aggS (canQ (mkRat (acc.num * x.num) (acc.den * x.den)))).den I v → (aggS (canQ (acc * x))).den I v from fun I v h => by rw [Rat.mul_def']; exact h)) rfl rfl rfl (by kernel_rfl) ?_;refine RunE.lat (ok_extract rfl rfl rfl) rfl rfl rfl ?_;refine RunE.nil ?_;refine EffAt.store 1 rfl rfl rfl rfl rfl rfl rfl rfl (.cons_cons _ (.cons _ (.cons_cons _ .slnil))) ?_;refine zzn ?_;refine T_ghost (ghost_drop (List.sublist_cons_self _ _)) ?_;refine T_region ?_;(iterate 3 refine zz ?_);refine zzn ?_
  exact ⟨i + 1, acc * x, ⟨by omega, by rw [hacc, hxe, foldl_take (fun z p => z * qv p) 1 hp], bq_le (bq_mul (hp := hbz) (hq := i2)) (by omega)⟩, by omega, ent_h (subG_cons rfl (subG_cons rfl (subG_cons rfl (subG_cons rfl (trivial))))) rfl⟩
 ·have k10 := of_decide_eq_false h10
  have hie : i = xs.length := by omega
  rw [hie, List.take_length] at hacc
  refine T_exit ?_;refine zr ?_;refine zz ?_;refine zw ?_;refine zzn ?_;refine T_ret ?_
  exact ⟨_, [], .one (.agg 1 inferInstance rfl rfl rfl rfl), List.nil_sublist _, by rw [hacc]; rfl, rfl⟩
theorem rqmul2_spec {b c : Bool} {l d m e : List Nat} {p q : Rat} {k j : Nat} [hx : IsQ b l d p k] [hy : IsQ c m e q j] (hs : 64 * (k + j) + 4000 ≤ 131072 := by decide) : PSpec Tryz.prog G 110 [slS 3 id [[boolS b, natS l, natS d], [boolS c, natS m, natS e]]] (aggS (canQ (p * q))) := by
 have h := rqmul_spec (G := G) (xs := [(b, l, d), (c, m, e)]) (by intro x hp; rcases List.mem_cons.1 hp with rfl | hp; exact ⟨hx.lim, hx.limd⟩; rw [List.mem_singleton.1 hp]; exact ⟨hy.lim, hy.limd⟩) (by have := hx.len; have := hy.len; have := hx.lend; have := hy.lend; have := hx.pos; have := hy.pos; simp only [sqs, qsz, List.length_cons, List.length_nil, List.take, List.map, List.sum_cons, List.sum_nil]; omega)
 have ee : [(b, l, d), (c, m, e)].foldl (fun z p => z * qv p) 1 = p * q := by show 1 * mkRat (sgn b (val l)) (val d) * mkRat (sgn c (val m)) (val e) = _; rw [hx.val, hy.val, Rat.one_mul]
 rw [ee] at h
 exact h.args ⟨fun I v hv => sl_pair [(b, l, d), (c, m, e)] hv, trivial⟩
theorem rqsub_spec {b c : Bool} {l d m e : List Nat} {p q : Rat} {k j : Nat} [hx : IsQ b l d p k] [hy : IsQ c m e q j] (hs : 64 * (k + j) + 4000 ≤ 131072 := by decide) : PSpec Tryz.prog G 81 [aggS [boolS b, natS l, natS d], aggS [boolS c, natS m, natS e]] (aggS (canQ (p - q))) := by
 have i1 := hx.bq
 have i2 := hy.bq
 refine zs Tryz.func81 ?_;refine zr ?_;(iterate 2 refine zz ?_);refine zzv fun b4 => ?_;refine zzn ?_;refine T_drawS 5 (by kernel_rfl) ?_;(iterate 2 refine zz ?_);refine zo (ok_call rfl rfl (rqneg_spec (by omega))) ?_;refine zo (ok_buildSlice rfl rfl (by decide) rfl (by simp) rfl rfl) ?_;refine zo ((ok_call rfl rfl (rqadd2_spec hs)).sub (show ∀ I v, (aggS (canQ (p + -q))).den I v → (aggS (canQ (p - q))).den I v from fun I v h => by rw [Rat.sub_eq_add_neg]; exact h)) ?_;refine zzn ?_;refine zw ?_;refine zzn ?_;refine T_ret ?_
 exact ⟨_, [], .one (.agg 0 inferInstance rfl rfl rfl rfl), List.nil_sublist _, rfl, rfl⟩
theorem rqcmp_spec {b c : Bool} {l d m e : List Nat} {p q : Rat} {k j : Nat} [hx : IsQ b l d p k] [hy : IsQ c m e q j] (hs : 64 * (k + j) + 4000 ≤ 131072 := by decide) : PSpec Tryz.prog G 25 [aggS [boolS b, natS l, natS d], aggS [boolS c, natS m, natS e]] (intS .i64 (tri p q)) := by
 have hxb := hx.bq
 have hyb := hy.bq
 have i1 := hxb.bz
 have i2 := hxb.bd
 have i3 := hyb.bz
 have i4 := hyb.bd
 refine zs Tryz.func25 ?_;refine zr ?_;refine Run.box rfl rfl rfl rfl rfl rfl fun b2 => ?_;refine Run.box rfl rfl rfl rfl rfl rfl fun b3 => ?_;refine zz ?_;refine zzn ?_;refine T_drawS 4 (by kernel_rfl) ?_;refine zz ?_;refine zo (ok_call rfl rfl (rqNorm_spec (by omega))) ?_;refine zz ?_;refine zo (ok_call rfl rfl (rqNorm_spec (by omega))) ?_;refine zzn ?_;(iterate 2 refine zw ?_);refine zzn ?_;refine T_drawS 17 (by kernel_rfl) ?_;(iterate 4 refine zz ?_);refine zf rover_spec ?_;refine zo (ok_buildSlice rfl rfl (by decide) rfl (by simp) rfl rfl) ?_;refine zo (ok_call rfl rfl (rzmul2_spec (by unfold cap; omega))) ?_;(iterate 4 refine zz ?_);refine zf rover_spec ?_;refine zo (ok_buildSlice rfl rfl (by decide) rfl (by simp) rfl rfl) ?_;refine zo (ok_call rfl rfl (rzmul2_spec (by unfold cap; omega))) ?_;refine zo (ok_call rfl rfl (rzsub_spec (by unfold cap; omega))) ?_;refine zo ((ok_call rfl rfl (rzSign_spec (by unfold cap; omega))).sub (int_eq cmp_sign)) ?_;refine zz ?_;(iterate 2 refine zzn ?_);refine T_ret ?_
 exact ⟨_, [], .one (.tmp rfl), List.nil_sublist _, rfl, rfl⟩
theorem rqtold_spec {b c : Bool} {l d m e : List Nat} : PSpec Tryz.prog G 48 [aggS [boolS b, natS l, natS d], aggS [boolS c, natS m, natS e]] (boolS (decide ((b = c ∧ l = m) ∧ d = e))) := by
 refine zs Tryz.func48 ?_;refine zr ?_;(iterate 3 refine zz ?_);refine zx ?_;(iterate 4 refine zz ?_)
 refine Run.oneB (ok_call rfl rfl rtold_spec) rfl rfl rfl (fun h1_4 => ?_) (fun h1_4 => ?_)
 ·refine zz ?_;(iterate 4 refine zz ?_);refine zf rsame_spec ?_;(iterate 2 refine zz ?_);refine zzn ?_;refine T_ret ?_
  exact ⟨_, [], .one (.tmp rfl), List.nil_sublist _, congrArg boolS (decide_eq_decide.2 ⟨fun h => ⟨of_decide_eq_true h1_4, h⟩, fun h => h.2⟩), rfl⟩
 ·refine zz ?_;(iterate 5 refine zq ?_);(iterate 2 refine zz ?_);refine zzn ?_;refine T_ret ?_
  exact ⟨_, [], .one (.tmp rfl), List.nil_sublist _, congrArg boolS (decide_eq_false (fun h => of_decide_eq_false h1_4 h.1)).symm, rfl⟩
theorem rqquo_spec {b c : Bool} {l d m e : List Nat} {p q : Rat} {k j : Nat} [hx : IsQ b l d p k] [hy : IsQ c m e q j] (hs : 64 * (k + j) + 4000 ≤ 131072 := by decide) : PSpec Tryz.prog G 228 [aggS [boolS b, natS l, natS d], aggS [boolS c, natS m, natS e]] (tupS [aggS (canQ (p / q)), intS .i64 (if q = 0 then 30 else 0)]) := by
 have hxb := hx.bq
 have hyb := hy.bq
 have i1 := hxb.bz
 have i2 := hxb.bd
 have i3 := hyb.bz
 have i4 := hyb.bd
 have i5 : Bd q.num.natAbs j := ⟨hyb.num⟩
 have i6 : IsZ (decide (q.num < 0)) (dig q.den) (sgn (decide (q.num < 0)) q.den) j := ⟨lim_dig _, by rw [val_dig], hyb.lens.2⟩
 have i7 := i6.bz
 have hpl := hxb.lens
 have hql := hyb.lens
 refine zs Tryz.func228 ?_;refine zr ?_;refine Run.box rfl rfl rfl rfl rfl rfl fun b2 => ?_;refine Run.box rfl rfl rfl rfl rfl rfl fun b3 => ?_;refine zzv fun b4 => ?_;refine zz ?_;refine zzn ?_;refine T_drawS 4 (by kernel_rfl) ?_;refine zo (ok_load_own_agg 2 rfl rfl rfl rfl rfl) ?_;refine zo (ok_call rfl rfl (rqNorm_spec (by omega))) ?_;refine zz ?_;refine zo (ok_call rfl rfl (rqNorm_spec (by omega))) ?_;refine zzn ?_;(iterate 2 refine zw ?_);refine zzn ?_;refine T_drawS 19 (by kernel_rfl) ?_;refine zz ?_;refine zo (ok_load_own_agg 2 rfl rfl rfl rfl rfl) ?_;(iterate 6 refine zz ?_);refine zo (ok_buildSlice rfl rfl (by decide) rfl (by simp) rfl rfl) ?_;refine zo (ok_call rfl rfl (rzmul2_spec (by unfold cap; omega))) ?_;(iterate 5 refine zz ?_);refine zo (ok_call rfl rfl (rmul_spec (by unfold cap; omega))) ?_;refine zo (ok_call rfl rfl (rnew_spec (by omega))) ?_;refine zz ?_
 refine zo ((ok_extract rfl rfl rfl).sub (int_eq (n := (if q = 0 then 30 else 0)) (by by_cases h : q = 0; rw [if_pos h, if_pos (by rw [h]; exact Nat.mul_zero _)]; rw [if_neg h, if_neg (Nat.mul_ne_zero p.den_nz (fun h0 => h (Rat.num_eq_zero.1 (Int.natAbs_eq_zero.1 h0))))]))) ?_
 refine zzn ?_;refine zw ?_;refine zz ?_;refine zzn ?_;refine T_ret ?_
 exact ⟨_, [], .many (.cons (.agg 0 inferInstance rfl rfl rfl rfl) (.cons (.tmp rfl) (.nil))), List.nil_sublist _, by rw [← quo_mk]; rfl, rfl⟩
end Go.Proofs
/- Points: vec, straitref08. -/
namespace Go.Proofs
open Go Go.Sv Num
variable {G : Imm}
theorem ok_max4 {P : Program} {G : Imm} {H : HL} {o : Oper} {g : List (Nat × SV)} {x y z w : Operand} {ts : Array TypeId} {k : IntKind} {m n p q : Int} (hop : o.op = .call { callee := .builtin .max, args := #[x, y, z, w], argTypes := ts }) (hx : opE g x = some (intS k m)) (hy : opE g y = some (intS k n)) (hz : opE g z = some (intS k p)) (hw : opE g w = some (intS k q)) : OpOK P G H o g (intS k (max (max (max m n) p) q)) :=
 ok_pure (by simp [hop]) fun I W a _ _ hr => by
  have h1 : a.eval x = .int k m := hr.get (by simp [hop, Op.operands, Call.operands]) hx
  have h2 : a.eval y = .int k n := hr.get (by simp [hop, Op.operands, Call.operands]) hy
  have h3 : a.eval z = .int k p := hr.get (by simp [hop, Op.operands, Call.operands]) hz
  have h4 : a.eval w = .int k q := hr.get (by simp [hop, Op.operands, Call.operands]) hw
  refine ⟨_, ?_, rfl⟩
  have e : ∀ u v : Int, (if v > u then v else u) = max u v := fun u v => by rw [Int.max_def]; split <;> split <;> omega
  simp [execOp, hop, resolve, invoke, builtin, Builtin.max_, Builtin.max2, h1, h2, h3, h4, e]
theorem fn_eq {f : FuncId} (I : Imm) (v : Value) (h : (eqS (.func (.func f) #[] #[])).den I v) : (fnS f []).den I v := ⟨[], h, dens_nil⟩
abbrev canP (x y : Rat) : List SV := [boolS (decide (x.num < 0)), natS (dig x.num.natAbs), natS (dig x.den), boolS (decide (y.num < 0)), natS (dig y.num.natAbs), natS (dig y.den)]
def dist (x y : Rat) : Rat := if x < y then y - x else x - y
instance bq_dist {p q : Rat} {k j : Nat} [hp : Bq p k] [hq : Bq q j] : Bq (dist p q) (k + j + 1) := by
 unfold dist; split
 ·rw [Nat.add_comm k j]; exact bq_sub
 ·exact bq_sub
def triP (x y u v : Rat) : Int := if tri x u = 0 then tri y v else tri x u
theorem tri_eq {p q : Rat} : tri p q = 0 ↔ p = q := by
 have := tri_zero (p := p) (q := q)
 by_cases h : p = q
 ·rw [decide_eq_true h] at this; exact ⟨fun _ => h, fun _ => beq_iff_eq.1 this⟩
 ·rw [decide_eq_false h] at this; exact ⟨fun h1 => absurd h1 (beq_eq_false_iff_ne.1 this), fun h1 => absurd h1 h⟩
theorem triP_zero {x y u v : Rat} : (triP x y u v == 0) = decide (x = u ∧ y = v) := by
 unfold triP
 by_cases h : tri x u = 0
 ·rw [if_pos h, tri_zero]; exact decide_eq_decide.2 ⟨fun h1 => ⟨tri_eq.1 h, h1⟩, fun h1 => h1.2⟩
 ·rw [if_neg h, beq_eq_false_iff_ne.2 h]; exact (decide_eq_false fun h1 => h (tri_eq.2 h1.1)).symm
theorem canQ_inj {p q : Rat} : ((decide (p.num < 0) = decide (q.num < 0) ∧ dig p.num.natAbs = dig q.num.natAbs) ∧ dig p.den = dig q.den) ↔ p = q := by
 constructor
 ·rintro ⟨⟨h1, h2⟩, h3⟩
  refine Rat.ext ?_ (dig_inj.1 h3)
  have h2 := dig_inj.1 h2
  rw [← sgn_self p.num, ← sgn_self q.num, h1, h2]
 ·rintro rfl; exact ⟨⟨rfl, rfl⟩, rfl⟩
theorem toldq_spec {p q : Rat} : PSpec Tryz.prog G 48 [aggS (canQ p), aggS (canQ q)] (boolS (decide (p = q))) := by
 have h := rqtold_spec (G := G) (b := decide (p.num < 0)) (c := decide (q.num < 0)) (l := dig p.num.natAbs) (d := dig p.den) (m := dig q.num.natAbs) (e := dig q.den)
 rw [show decide ((decide (p.num < 0) = decide (q.num < 0) ∧ dig p.num.natAbs = dig q.num.natAbs) ∧ dig p.den = dig q.den) = decide (p = q) from decide_eq_decide.2 canQ_inj] at h
 exact h
abbrev pc (p : (Bool × List Nat × List Nat) × (Bool × List Nat × List Nat)) : List SV := [boolS p.1.1, natS p.1.2.1, natS p.1.2.2, boolS p.2.1, natS p.2.2.1, natS p.2.2.2]
abbrev pcan (p : Rat × Rat) : List SV := canP p.1 p.2
def pv (p : (Bool × List Nat × List Nat) × (Bool × List Nat × List Nat)) : Rat × Rat := (qv p.1, qv p.2)
abbrev PtOk (k : Nat) (p : (Bool × List Nat × List Nat) × (Bool × List Nat × List Nat)) : Prop := (Lim p.1.2.1 ∧ Lim p.1.2.2 ∧ p.1.2.1.length ≤ k ∧ p.1.2.2.length ≤ k) ∧ Lim p.2.2.1 ∧ Lim p.2.2.2 ∧ p.2.2.1.length ≤ k ∧ p.2.2.2.length ≤ k
theorem isQ_lim {b : Bool} {l d : List Nat} {k : Nat} (h : Lim l ∧ Lim d ∧ l.length ≤ k ∧ d.length ≤ k) (hk : 0 < k) : IsQ b l d (qv (b, l, d)) k := ⟨h.1, h.2.1, rfl, h.2.2.1, h.2.2.2, hk⟩
theorem flat_pcan : ∀ l : List (Rat × Rat), (l.flatMap pcan).length = l.length * 6
 | [] => rfl
 | x :: l => by rw [List.flatMap_cons, List.length_append, flat_pcan l]; show 6 + l.length * 6 = (l.length + 1) * 6; omega
theorem vOf_spec {n m : Int} {p q : Rat} (h1 : -9223372036854775808 ≤ n) (h2 : n ≤ 9223372036854775807) (h3 : -9223372036854775808 ≤ m) (h4 : m ≤ 9223372036854775807) (hp : (n : Rat) = p := by rfl) (hq : (m : Rat) = q := by rfl) : PSpec Tryz.prog G 175 [intS .i64 n, intS .i64 m] (aggS (canP p q)) := by
 refine zs Tryz.func175 ?_;refine zr ?_;refine zzv fun b4 => ?_;refine zx ?_;refine zz ?_;refine zf (qOf_spec h1 h2 hp) ?_;refine zz ?_;refine zf (qOf_spec h3 h4 hq) ?_;refine zz ?_;refine zw ?_;refine zzn ?_;refine T_ret ?_
 exact ⟨_, [], .one (.agg 0 inferInstance rfl rfl rfl rfl), List.nil_sublist _, rfl, rfl⟩
theorem two_spec {f : FuncId} : PSpec Tryz.prog G 230 [eqS (.func (.func f) #[] #[])] (fnS 243 [ptrS [eqS (.func (.func f) #[] #[])]]) := by
 refine zs Tryz.func230 ?_;refine zr ?_;(iterate 2 refine zz ?_);refine zx ?_;(iterate 2 refine zz ?_);refine zzn ?_;refine T_ret ?_
 exact ⟨_, [], .one (.tmp rfl), List.nil_sublist _, rfl, rfl⟩
theorem two1_spec {f : FuncId} {b1 b2 : Bool} {l1 d1 l2 d2 : List Nat} {r : Rat} (h : PSpec Tryz.prog G f [slS 3 id [[boolS b1, natS l1, natS d1], [boolS b2, natS l2, natS d2]]] (aggS (canQ r))) : PSpec Tryz.prog G 243 [aggS [boolS b1, natS l1, natS d1], aggS [boolS b2, natS l2, natS d2], ptrS [eqS (.func (.func f) #[] #[])]] (aggS (canQ r)) := by
 refine zs Tryz.func243 ?_;refine zr ?_;(iterate 2 refine zz ?_);refine zzv fun b5 => ?_;refine zx ?_;refine zo ((ok_load rfl rfl).sub fn_eq) ?_;(iterate 2 refine zz ?_);refine zo (ok_buildSlice rfl rfl (by decide) rfl (by simp) rfl rfl) ?_;refine zo (ok_callV rfl rfl rfl h) ?_;refine zw ?_;refine zzn ?_;refine T_ret ?_
 exact ⟨_, [], .one (.agg 0 inferInstance rfl rfl rfl rfl), List.nil_sublist _, rfl, rfl⟩
theorem parts_spec {s : SV} [One s] : PSpec Tryz.prog G 192 [s] (fnS 221 [ptrS [s]]) := by
 refine zs Tryz.func192 ?_;refine zr ?_;(iterate 2 refine zz ?_);refine zx ?_;(iterate 2 refine zz ?_);refine zzn ?_;refine T_ret ?_
 exact ⟨_, [], .one (.tmp rfl), List.nil_sublist _, rfl, rfl⟩
theorem parts1_spec {s : SV} {f : FuncId} {caps : List SV} {b1 c1 b2 c2 : Bool} {l1 d1 m1 e1 l2 d2 m2 e2 : List Nat} {r1 r2 : Rat} (hs : ∀ I v, s.den I v → (fnS f caps).den I v) (h1 : PSpec Tryz.prog G f ([aggS [boolS b1, natS l1, natS d1], aggS [boolS b2, natS l2, natS d2]] ++ caps) (aggS (canQ r1))) (h2 : PSpec Tryz.prog G f ([aggS [boolS c1, natS m1, natS e1], aggS [boolS c2, natS m2, natS e2]] ++ caps) (aggS (canQ r2))) : PSpec Tryz.prog G 221 [aggS [boolS b1, natS l1, natS d1, boolS c1, natS m1, natS e1], aggS [boolS b2, natS l2, natS d2, boolS c2, natS m2, natS e2], ptrS [s]] (aggS (canP r1 r2)) := by
 refine zs Tryz.func221 ?_;refine zr ?_;(iterate 2 refine zz ?_);refine zzv fun b5 => ?_;refine zzn ?_;refine T_drawS 13 (by kernel_rfl) ?_;refine zo ((ok_load rfl rfl).sub hs) ?_;(iterate 4 refine zz ?_);refine zo (ok_callV rfl rfl rfl h1) ?_;refine zo ((ok_load rfl rfl).sub hs) ?_;(iterate 4 refine zz ?_);refine zo (ok_callV rfl rfl rfl h2) ?_;refine zz ?_;refine zzn ?_;refine zw ?_;refine zzn ?_;refine T_ret ?_
 exact ⟨_, [], .one (.agg 0 inferInstance rfl rfl rfl rfl), List.nil_sublist _, rfl, rfl⟩
theorem vAdd_spec [Tab G] {b1 c1 : Bool} {l1 d1 m1 e1 : List Nat} {x1 y1 : Rat} {k1 j1 : Nat} [hx1 : IsQ b1 l1 d1 x1 k1] [hy1 : IsQ c1 m1 e1 y1 j1] {b2 c2 : Bool} {l2 d2 m2 e2 : List Nat} {x2 y2 : Rat} {k2 j2 : Nat} [hx2 : IsQ b2 l2 d2 x2 k2] [hy2 : IsQ c2 m2 e2 y2 j2] (hs : 100 * (k1 + j1 + k2 + j2) + 21000 ≤ cap := by decide) : PSpec Tryz.prog G 212 [aggS [boolS b1, natS l1, natS d1, boolS c1, natS m1, natS e1], aggS [boolS b2, natS l2, natS d2, boolS c2, natS m2, natS e2]] (aggS (canP (x1 + x2) (y1 + y2))) := by
 refine zs Tryz.func212 ?_;refine zr ?_;(iterate 2 refine zz ?_);refine zzv fun b4 => ?_;refine zzn ?_;refine T_drawS 5 (by kernel_rfl) ?_;refine zf two_spec ?_;refine zf parts_spec ?_;(iterate 2 refine zz ?_);refine zo (ok_callV rfl rfl rfl (parts1_spec (fun _ _ h => h) (two1_spec (qadd2_spec (by omega))) (two1_spec (qadd2_spec (by omega))))) ?_;refine zzn ?_;refine zw ?_;refine zzn ?_;refine T_ret ?_
 exact ⟨_, [], .one (.agg 0 inferInstance rfl rfl rfl rfl), List.nil_sublist _, rfl, rfl⟩
theorem vSub_spec [Tab G] {b1 c1 : Bool} {l1 d1 m1 e1 : List Nat} {x1 y1 : Rat} {k1 j1 : Nat} [hx1 : IsQ b1 l1 d1 x1 k1] [hy1 : IsQ c1 m1 e1 y1 j1] {b2 c2 : Bool} {l2 d2 m2 e2 : List Nat} {x2 y2 : Rat} {k2 j2 : Nat} [hx2 : IsQ b2 l2 d2 x2 k2] [hy2 : IsQ c2 m2 e2 y2 j2] (hs : 100 * (k1 + j1 + k2 + j2) + 21000 ≤ cap := by decide) : PSpec Tryz.prog G 148 [aggS [boolS b1, natS l1, natS d1, boolS c1, natS m1, natS e1], aggS [boolS b2, natS l2, natS d2, boolS c2, natS m2, natS e2]] (aggS (canP (x1 - x2) (y1 - y2))) := by
 refine zs Tryz.func148 ?_;refine zr ?_;(iterate 2 refine zz ?_);refine zzv fun b4 => ?_;refine zzn ?_;refine T_drawS 4 (by kernel_rfl) ?_;refine zf parts_spec ?_;(iterate 2 refine zz ?_);refine zo (ok_callV rfl rfl rfl (parts1_spec fn_eq (qsub_spec (by omega)) (qsub_spec (by omega)))) ?_;refine zzn ?_;refine zw ?_;refine zzn ?_;refine T_ret ?_
 exact ⟨_, [], .one (.agg 0 inferInstance rfl rfl rfl rfl), List.nil_sublist _, rfl, rfl⟩
theorem vScale_spec [Tab G] {b1 c1 : Bool} {l1 d1 m1 e1 : List Nat} {x1 y1 : Rat} {k1 j1 : Nat} [hx1 : IsQ b1 l1 d1 x1 k1] [hy1 : IsQ c1 m1 e1 y1 j1] {bt : Bool} {lt dt : List Nat} {t : Rat} {kt : Nat} [ht : IsQ bt lt dt t kt] (hs : 100 * (k1 + j1 + 2 * kt) + 21000 ≤ cap := by decide) : PSpec Tryz.prog G 213 [aggS [boolS b1, natS l1, natS d1, boolS c1, natS m1, natS e1], aggS [boolS bt, natS lt, natS dt]] (aggS (canP (x1 * t) (y1 * t))) := by
 refine zs Tryz.func213 ?_;refine zr ?_;(iterate 2 refine zz ?_);refine zzv fun b4 => ?_;refine zzn ?_;refine T_drawS 7 (by kernel_rfl) ?_;refine zf two_spec ?_;refine zf parts_spec ?_;(iterate 4 refine zz ?_);refine zo (ok_callV rfl rfl rfl (parts1_spec (b2 := bt) (l2 := lt) (d2 := dt) (c2 := bt) (m2 := lt) (e2 := dt) (fun _ _ h => h) (two1_spec (qmul2_spec (by omega))) (two1_spec (qmul2_spec (by omega))))) ?_;refine zzn ?_;refine zw ?_;refine zzn ?_;refine T_ret ?_
 exact ⟨_, [], .one (.agg 0 inferInstance rfl rfl rfl rfl), List.nil_sublist _, rfl, rfl⟩
theorem vAt_spec [Tab G] {b1 c1 : Bool} {l1 d1 m1 e1 : List Nat} {x1 y1 : Rat} {k1 j1 : Nat} [hx1 : IsQ b1 l1 d1 x1 k1] [hy1 : IsQ c1 m1 e1 y1 j1] {b2 c2 : Bool} {l2 d2 m2 e2 : List Nat} {x2 y2 : Rat} {k2 j2 : Nat} [hx2 : IsQ b2 l2 d2 x2 k2] [hy2 : IsQ c2 m2 e2 y2 j2] {bt : Bool} {lt dt : List Nat} {t : Rat} {kt : Nat} [ht : IsQ bt lt dt t kt] (hs : 200 * (k1 + j1 + k2 + j2 + 2 * kt) + 22000 ≤ cap := by decide) : PSpec Tryz.prog G 179 [aggS [boolS b1, natS l1, natS d1, boolS c1, natS m1, natS e1], aggS [boolS b2, natS l2, natS d2, boolS c2, natS m2, natS e2], aggS [boolS bt, natS lt, natS dt]] (aggS (canP (x1 + (x2 - x1) * t) (y1 + (y2 - y1) * t))) := by
 have hxb1 := hx1.bq
 have hyb1 := hy1.bq
 have hxb2 := hx2.bq
 have hyb2 := hy2.bq
 have htb := ht.bq
 refine zs Tryz.func179 ?_;refine zr ?_;(iterate 3 refine zz ?_);refine zzv fun b6 => ?_;refine zzn ?_;refine T_drawS 7 (by kernel_rfl) ?_;(iterate 3 refine zz ?_);refine zo (ok_call rfl rfl (vSub_spec (by omega))) ?_;refine zz ?_;refine zo (ok_call rfl rfl (vScale_spec (by omega))) ?_;refine zo (ok_call rfl rfl (vAdd_spec (by omega))) ?_;refine zzn ?_;refine zw ?_;refine zzn ?_;refine T_ret ?_
 exact ⟨_, [], .one (.agg 0 inferInstance rfl rfl rfl rfl), List.nil_sublist _, rfl, rfl⟩
theorem vCross_spec [Tab G] {b1 c1 : Bool} {l1 d1 m1 e1 : List Nat} {x1 y1 : Rat} {k1 j1 : Nat} [hx1 : IsQ b1 l1 d1 x1 k1] [hy1 : IsQ c1 m1 e1 y1 j1] {b2 c2 : Bool} {l2 d2 m2 e2 : List Nat} {x2 y2 : Rat} {k2 j2 : Nat} [hx2 : IsQ b2 l2 d2 x2 k2] [hy2 : IsQ c2 m2 e2 y2 j2] (hs : 100 * (k1 + j1 + k2 + j2) + 21000 ≤ cap := by decide) : PSpec Tryz.prog G 54 [aggS [boolS b1, natS l1, natS d1, boolS c1, natS m1, natS e1], aggS [boolS b2, natS l2, natS d2, boolS c2, natS m2, natS e2]] (aggS (canQ (x1 * y2 - y1 * x2))) := by
 have hxb1 := hx1.bq
 have hyb1 := hy1.bq
 have hxb2 := hx2.bq
 have hyb2 := hy2.bq
 refine zs Tryz.func54 ?_;refine zr ?_;(iterate 2 refine zz ?_);refine zzv fun b4 => ?_;refine zzn ?_;refine T_drawS 13 (by kernel_rfl) ?_;(iterate 4 refine zz ?_);refine zo (ok_buildSlice rfl rfl (by decide) rfl (by simp) rfl rfl) ?_;refine zo (ok_call rfl rfl (qmul2_spec (by omega))) ?_;(iterate 4 refine zz ?_);refine zo (ok_buildSlice rfl rfl (by decide) rfl (by simp) rfl rfl) ?_;refine zo (ok_call rfl rfl (qmul2_spec (by omega))) ?_;refine zo (ok_call rfl rfl (qsub_spec (by omega))) ?_;refine zzn ?_;refine zw ?_;refine zzn ?_;refine T_ret ?_
 exact ⟨_, [], .one (.agg 0 inferInstance rfl rfl rfl rfl), List.nil_sublist _, rfl, rfl⟩
theorem vCmp_spec [Tab G] {b1 c1 : Bool} {l1 d1 m1 e1 : List Nat} {x1 y1 : Rat} {k1 j1 : Nat} [hx1 : IsQ b1 l1 d1 x1 k1] [hy1 : IsQ c1 m1 e1 y1 j1] {b2 c2 : Bool} {l2 d2 m2 e2 : List Nat} {x2 y2 : Rat} {k2 j2 : Nat} [hx2 : IsQ b2 l2 d2 x2 k2] [hy2 : IsQ c2 m2 e2 y2 j2] (hs : 100 * (k1 + j1 + k2 + j2) + 21000 ≤ cap := by decide) : PSpec Tryz.prog G 94 [aggS [boolS b1, natS l1, natS d1, boolS c1, natS m1, natS e1], aggS [boolS b2, natS l2, natS d2, boolS c2, natS m2, natS e2]] (intS .i64 (triP x1 y1 x2 y2)) := by
 refine zs Tryz.func94 ?_;refine zr ?_;(iterate 3 refine zz ?_);refine zzn ?_;refine T_seq ?_;refine zr ?_;(iterate 4 refine zz ?_);refine zo (ok_call rfl rfl (qcmp_spec (by omega))) ?_;refine zz ?_;refine zx ?_;(iterate 2 refine zz ?_);refine zzn ?_;refine zzc (fun h12 => ?_) fun h12 => ?_
 ·have k12 := bne_iff_ne.1 h12
  refine zr ?_;(iterate 2 refine zz ?_);refine zzn ?_;refine T_ret ?_
  exact ⟨_, [], .one (.tmp rfl), List.nil_sublist _, by unfold triP; rw [if_neg k12], rfl⟩
 ·have k12 := bne_eq_false_iff_eq.1 h12
  refine T_skip ?_;refine zr ?_;(iterate 4 refine zz ?_);refine zo (ok_call rfl rfl (qcmp_spec (by omega))) ?_;refine zz ?_;refine zzn ?_;refine T_ret ?_
  exact ⟨_, [], .one (.tmp rfl), List.nil_sublist _, by unfold triP; rw [if_pos k12], rfl⟩
theorem vSame_spec [Tab G] {b1 c1 : Bool} {l1 d1 m1 e1 : List Nat} {x1 y1 : Rat} {k1 j1 : Nat} [hx1 : IsQ b1 l1 d1 x1 k1] [hy1 : IsQ c1 m1 e1 y1 j1] {b2 c2 : Bool} {l2 d2 m2 e2 : List Nat} {x2 y2 : Rat} {k2 j2 : Nat} [hx2 : IsQ b2 l2 d2 x2 k2] [hy2 : IsQ c2 m2 e2 y2 j2] (hs : 100 * (k1 + j1 + k2 + j2) + 21000 ≤ cap := by decide) : PSpec Tryz.prog G 50 [aggS [boolS b1, natS l1, natS d1, boolS c1, natS m1, natS e1], aggS [boolS b2, natS l2, natS d2, boolS c2, natS m2, natS e2]] (boolS (decide (x1 = x2 ∧ y1 = y2))) := by
 refine zs Tryz.func50 ?_;refine zr ?_;(iterate 3 refine zz ?_);refine zx ?_;(iterate 2 refine zz ?_);refine zf (vCmp_spec hs) ?_;refine zo ((ok_cmp rfl rfl rfl rfl).sub (bool_eq triP_zero)) ?_;refine zz ?_;refine zzn ?_;refine T_ret ?_
 exact ⟨_, [], .one (.tmp rfl), List.nil_sublist _, rfl, rfl⟩
theorem vNorm_spec [Tab G] {xs : List ((Bool × List Nat × List Nat) × (Bool × List Nat × List Nat))} {k : Nat} (hk : 0 < k) (hl : ∀ p ∈ xs, PtOk k p) (hs : 2 * k + 11000 ≤ cap) (hxl : xs.length ≤ cap) : PSpec Tryz.prog G 135 [slS 6 pc xs] (slS 6 pcan (xs.map pv)) := by
 unfold cap at hxl
 refine zs Tryz.func135 ?_;refine zr ?_;refine zz ?_;refine zzn ?_;refine T_seq ?_;refine zr ?_;(iterate 3 refine zz ?_);refine zzn ?_;refine T_block ?_;refine T_ghost (ghost_row 30 6) ?_
 refine T_loop2 (fun (i : Nat) (q : Option (Nat × Nat)) => ⟨_, [(7, intS .i64 (i : Nat)), (6, intS .i64 xs.length), (5, slS 6 pc xs), (2, eqS (rowV q i))], [rowE q 30 6 i (((xs.take i).map pv).flatMap pcan)], [], (0, false)⟩)
   (fun i q => i ≤ xs.length ∧ rowOk q i) (fun i q => xs.length - i)
   0 none ⟨Nat.zero_le _, rfl⟩ (ent_h zk rfl) ?_
 rintro i q ⟨hi, hq⟩
 refine zr ?_;refine zz ?_;refine zzn ?_;refine T_seq ?_;refine zzc (fun h8 => ?_) fun h8 => ?_
 ·have k8 := of_decide_eq_true h8
  obtain ⟨⟨⟨b, l, d⟩, ⟨c, m, e⟩⟩, hp⟩ : ∃ p, xs[i]? = some p := ⟨_, List.getElem?_eq_getElem (by omega)⟩
  have hpm := hl _ (List.mem_of_getElem? hp)
  have i1 : IsQ b l d (qv (b, l, d)) k := isQ_lim hpm.1 hk
  have i2 : IsQ c m e (qv (c, m, e)) k := isQ_lim hpm.2 hk
  have htk : (xs.take (i + 1)).map pv = (xs.take i).map pv ++ [(qv (b, l, d), qv (c, m, e))] := by rw [List.take_add_one, hp]; simp [pv]
  refine T_skip ?_;refine T_seq ?_;refine T_block ?_;refine zr ?_;refine zo (ok_indexAddr rfl rfl rfl (by omega) (y := ((b, l, d), (c, m, e))) (hp)) ?_;refine zo ((show OpOK _ _ _ _ _ (aggS [boolS b, natS l, natS d, boolS c, natS m, natS e]) from ok_load_agg rfl rfl rfl rfl)) ?_;refine zzv fun b4 => ?_;refine zw ?_;refine zzn ?_;refine T_draw 9 (by kernel_rfl) ?_;(iterate 3 refine zz ?_);refine zf (qNorm_spec hs) ?_;(iterate 2 refine zz ?_);refine zf (qNorm_spec hs) ?_;refine zz ?_;refine zo (ok_buildSlice rfl rfl (by decide) rfl (by simp) rfl rfl) ?_;refine zzn ?_;refine Run.append 1 rfl rfl rfl rfl rfl rfl rfl rfl hq (by rw [flat_pcan]; simp; omega) (fun z hz => by rw [List.mem_singleton.1 hz]; rfl) (by unfold big; simp; omega) (by unfold big; simp; omega) fun q20 hq20 => ?_;refine zz ?_;refine zzn ?_;refine T_ghost (ghost_drop (List.sublist_cons_self _ _)) ?_;refine T_region ?_;refine za ((i + 1 : Nat) : Int) ?_;refine zz ?_;refine zzn ?_
  exact ⟨i + 1, q20, ⟨by omega, hq20⟩, by omega, ent_h (subG_cons rfl (subG_cons rfl (subG_cons rfl (subG_cons rfl (trivial))))) (by rw [htk, List.flatMap_append]; rfl)⟩
 ·have k8 := of_decide_eq_false h8
  have hie : i = xs.length := by omega
  subst hie
  refine T_exit ?_;refine T_ghost (ghost_sl 0 2 rfl rfl hq (l := (xs.take xs.length).map pv) (f := pcan) (by simp) rfl (fun _ _ => rfl) (by unfold big; omega)) ?_;refine zr ?_;(iterate 2 refine zz ?_);refine zzn ?_;refine T_ret ?_
  exact ⟨_, [], .one (.tmp rfl), List.nil_sublist _, by rw [List.take_length], rfl⟩
end Go.Proofs
