/- Rationals: straitref07. -/
import Derived.Test.YtijnlobgmfmhjaaGreatDoorSnu
import Derived.Test.YtijnlobgmfmhjaaGreatDoorSv1
namespace Go.Proofs
open Go Go.Sv Num
variable {G : Imm}
theorem tri_zero {p q : Rat} : (tri p q == 0) = decide (p = q) := by
  unfold tri
  by_cases h1 : p < q
  · rw [if_pos h1, decide_eq_false (fun h => Rat.lt_irrefl (h ▸ h1))]; rfl
  · rw [if_neg h1]
    by_cases h2 : q < p
    · rw [if_pos h2, decide_eq_false (fun h => Rat.lt_irrefl (h ▸ h2))]; rfl
    · rw [if_neg h2, decide_eq_true (Rat.le_antisymm (Rat.not_lt.1 h2) (Rat.not_lt.1 h1))]; rfl
theorem sign_tri {q : Rat} : q.num.sign = tri q 0 := by
  rw [← cmp_sign]; simp
theorem mkRat_sign {z : Int} {d : Nat} (hd : d ≠ 0) : (mkRat z d).num.sign = z.sign := by
  have h3 := mkRat_num (b := decide (z < 0)) (a := z.natAbs) hd
  have h4 := mkRat_neg (b := decide (z < 0)) (a := z.natAbs) hd
  have h5 : (mkRat z d).num = 0 ↔ z = 0 := by
    rw [Rat.num_eq_zero]; exact Rat.mkRat_eq_zero hd
  rw [sgn_self] at h4
  by_cases hz : z < 0
  · have h6 : (mkRat z d).num < 0 := by
      rw [decide_eq_true hz, Bool.true_and, decide_eq_true (show z.natAbs ≠ 0 by omega)] at h4; exact of_decide_eq_true h4
    rw [Int.sign_eq_neg_one_of_neg hz, Int.sign_eq_neg_one_of_neg h6]
  · have h6 : ¬ (mkRat z d).num < 0 := by
      rw [decide_eq_false hz, Bool.false_and] at h4; exact of_decide_eq_false h4
    by_cases h0 : z = 0
    · rw [h0, Rat.zero_mkRat]; rfl
    · rw [Int.sign_eq_one_of_pos (by omega), Int.sign_eq_one_of_pos (by have := mt h5.1 h0; omega)]
theorem inv_mk (q : Rat) : q⁻¹ = mkRat (sgn (decide (q.num < 0)) q.den) q.num.natAbs := by
  rw [Rat.inv_def]
  obtain ⟨n, hn⟩ : ∃ n, n = q.num := ⟨_, rfl⟩
  rw [← hn]
  rcases Int.lt_or_le n 0 with h | h
  · obtain ⟨m, rfl⟩ : ∃ m : Nat, n = -(m : Int) := ⟨n.natAbs, by omega⟩
    rw [Rat.divInt_neg', Rat.divInt_ofNat, decide_eq_true h, Int.natAbs_neg, Int.natAbs_natCast]; rfl
  · obtain ⟨m, rfl⟩ : ∃ m : Nat, n = (m : Int) := ⟨n.natAbs, by omega⟩
    rw [Rat.divInt_ofNat, decide_eq_false (by omega), Int.natAbs_natCast]; rfl
theorem quo_mk (p q : Rat) : mkRat (p.num * sgn (decide (q.num < 0)) q.den) (p.den * q.num.natAbs) = p / q := by
  rw [Rat.div_def, inv_mk q, ← Rat.mkRat_mul_mkRat, Rat.mkRat_self]
instance bq_div {p q : Rat} {k j : Nat} [hp : Bq p k] [hq : Bq q j] : Bq (p / q) (k + j) := by
  rw [← quo_mk]
  exact bq_mkRat (by rw [Int.natAbs_mul, sgn_natAbs, Nat.pow_add]; exact Nat.mul_lt_mul'' hp.num hq.den) (by rw [Nat.pow_add]; exact Nat.mul_lt_mul'' hp.den hq.num) (by have := hp.pos; omega)
theorem IsQ.z {b : Bool} {l d : List Nat} {q : Rat} {k : Nat} (h : IsQ b l d q k) : IsZ b l (sgn b (Num.val l)) k := ⟨h.lim, rfl, h.len⟩
theorem rover_spec {l : List Nat} : PSpec Tryz.prog G 36 [natS l] (aggS [boolS false, natS l]) := by
  refine fn_spec Tryz.func36 rfl rfl rfl ?_
  refine T_regionS ?_
  refine Run.alloc rfl rfl rfl rfl rfl fun b2 => ?_
  refine Run.nil ?_
  refine T_regionS ?_
  refine Run.one (ok_move rfl rfl) rfl rfl rfl ?_
  refine Run.one (ok_build rfl rfl rfl) rfl rfl rfl ?_
  refine Run.store 0 rfl rfl rfl rfl rfl rfl rfl rfl rfl ?_
  refine Run.nil ?_
  refine T_ret ?_
  exact ⟨_, [], .one (.agg 0 inferInstance rfl rfl rfl rfl), List.nil_sublist _, rfl, rfl⟩
theorem rqOf_spec {n : Int} {q : Rat} (h1 : -9223372036854775808 ≤ n) (h2 : n ≤ 9223372036854775807) (hq : (n : Rat) = q := by rfl) : PSpec Tryz.prog G 18 [intS .i64 n] (aggS (canQ q)) := by
  refine fn_spec Tryz.func18 rfl rfl rfl ?_
  refine T_regionS ?_
  refine Run.alloc rfl rfl rfl rfl rfl fun b2 => ?_
  refine Run.nil ?_
  refine T_regionS ?_
  refine Run.one (ok_move rfl rfl) rfl rfl rfl ?_
  refine Run.one (ok_call rfl rfl (rzOf_spec h1 h2)) rfl rfl rfl ?_
  refine Run.one (ok_buildNat [1] rfl rfl (by decide) rfl (by simp) rfl rfl rfl) rfl rfl rfl ?_
  refine Run.one (ok_build rfl rfl rfl) rfl rfl rfl ?_
  refine Run.store 0 rfl rfl rfl rfl rfl rfl rfl rfl rfl ?_
  refine Run.nil ?_
  refine T_ret ?_
  exact ⟨_, [], .one (.agg 0 inferInstance rfl rfl rfl rfl), List.nil_sublist _, by rw [← hq]; show _ = aggS [boolS (decide (n < 0)), natS (dig n.natAbs), natS (dig 1)]; rw [dig_one]; rfl, rfl⟩
theorem rnew_spec {b : Bool} {l d : List Nat} {z : Int} {n k j : Nat} [h : IsZ b l z k] [hd : IsNat d n] [hk : Sz d j] (hs : 32 * (k + j) + 20000 ≤ 65536 := by decide) : PSpec Tryz.prog G 46 [aggS [boolS b, natS l], natS d] (tupS [aggS (canQ (mkRat z n)), intS .i64 (if n = 0 then 30 else 0)]) := by
  have hlen := h.len
  have hlend := hk.h
  have hb := h.bz.len
  refine fn_spec Tryz.func46 rfl rfl rfl ?_
  refine T_regionS ?_
  refine Run.box rfl rfl rfl rfl rfl rfl fun b2 => ?_
  refine Run.alloc rfl rfl rfl rfl rfl fun b4 => ?_
  refine Run.one (ok_assign rfl rfl) rfl rfl rfl ?_
  refine Run.nil ?_
  refine T_seq ?_
  refine T_regionS ?_
  refine Run.one (ok_move rfl rfl) rfl rfl rfl ?_
  refine Run.one (ok_call rfl rfl (rtrim_spec (by unfold cap; omega))) rfl rfl rfl ?_
  refine Run.one (ok_len rfl rfl) rfl rfl rfl ?_
  refine Run.one (ok_cmp rfl rfl rfl rfl) rfl rfl rfl ?_
  refine Run.nil ?_
  refine T_cond rfl rfl (fun h21 => ?_) (fun h21 => ?_)
  · have k21 := beq_iff_eq.1 h21
    have hn0 : n = 0 := dig_len_zero.1 (by omega)
    refine T_regionS ?_
    refine Run.one (ok_call rfl rfl (rqOf_spec (n := 0) (q := mkRat z n) (by decide) (by decide) (by rw [hn0, Rat.mkRat_zero]; rfl))) rfl rfl rfl ?_
    refine Run.store 0 rfl rfl rfl rfl rfl rfl rfl rfl rfl ?_
    refine Run.one (ok_assign rfl rfl) rfl rfl rfl ?_
    refine Run.nil ?_
    refine T_ret ?_
    exact ⟨_, [], .many (.cons (.agg 0 inferInstance rfl rfl rfl rfl) (.cons (.tmp rfl) (.nil))), List.nil_sublist _, by rw [if_pos hn0]; rfl, rfl⟩
  · have k21 := beq_eq_false_iff_ne.1 h21
    have hn0 : n ≠ 0 := fun h0 => k21 (by rw [h0, dig_zero]; rfl)
    have hnp := Nat.pos_of_ne_zero hn0
    obtain ⟨x, hx⟩ : ∃ x, x = z.natAbs := ⟨_, rfl⟩
    obtain ⟨g, hg⟩ : ∃ g, g = Nat.gcd x n := ⟨_, rfl⟩
    have hg0 : 0 < g := by rw [hg]; exact Nat.gcd_pos_of_pos_right _ hnp
    have hqn := mkRat_num (b := decide (z < 0)) (a := z.natAbs) hn0
    have hqd := mkRat_den (b := decide (z < 0)) (a := z.natAbs) hn0
    rw [sgn_self, ← hx, ← hg] at hqn hqd
    obtain ⟨q, hq⟩ : ∃ q, q = mkRat z n := ⟨_, rfl⟩
    rw [← hq] at hqn hqd ⊢
    have hxg : x / g ≤ x := Nat.div_le_self _ _
    have hng : n / g ≤ n := Nat.div_le_self _ _
    have hxl : x < 4294967296 ^ k := by rw [hx]; exact h.bz.h
    have i1 : IsZ (decide (z < 0)) (dig (x / g)) q.num k := ⟨lim_dig _, by rw [val_dig, hqn], dig_length_le (Nat.lt_of_le_of_lt hxg hxl)⟩
    refine T_skip ?_
    refine T_regionS ?_
    refine Run.one (ok_load_own_agg 1 rfl rfl rfl rfl rfl) rfl rfl rfl ?_
    refine Run.one (ok_call rfl rfl (rznorm_spec (by unfold cap; omega))) rfl rfl rfl ?_
    refine Run.store 1 rfl rfl rfl rfl rfl rfl rfl rfl rfl ?_
    refine Run.nil ?_
    refine T_regionS ?_
    refine Run.one (ok_fieldAddr_eq rfl rfl rfl) rfl rfl rfl ?_
    refine Run.one (ok_load_own 1 rfl rfl rfl rfl) rfl rfl rfl ?_
    refine Run.one (ok_call rfl rfl (rsmall_spec (by unfold cap; omega))) rfl rfl rfl ?_
    refine Run.one (ok_move rfl rfl) rfl rfl rfl ?_
    refine Run.one (ok_extract rfl rfl rfl) rfl rfl rfl ?_
    refine Run.one (ok_extract rfl rfl rfl) rfl rfl rfl ?_
    refine Run.one (ok_assign rfl rfl) rfl rfl rfl ?_
    refine Run.one (ok_assign rfl rfl) rfl rfl rfl ?_
    refine Run.nil ?_
    refine T_regionS ?_
    refine Run.one (ok_move rfl rfl) rfl rfl rfl ?_
    refine Run.one (ok_call rfl rfl (rsmall_spec (by unfold cap; omega))) rfl rfl rfl ?_
    refine Run.one (ok_move rfl rfl) rfl rfl rfl ?_
    refine Run.one (ok_extract rfl rfl rfl) rfl rfl rfl ?_
    refine Run.one (ok_extract rfl rfl rfl) rfl rfl rfl ?_
    refine Run.one (ok_assign rfl rfl) rfl rfl rfl ?_
    refine Run.one (ok_assign rfl rfl) rfl rfl rfl ?_
    refine Run.nil ?_
    refine T_seqQ (K := fun S1 => Ent S1 (⟨82, [(5, intS .i64 0), (4, eqS (.pointer (some ⟨b4, 0, none⟩))), (2, eqS (.pointer (some ⟨b2, 0, none⟩))), (1, natS d)], [⟨some b4, 27, [eqS (.bool false), eqS (.slice none 0 0), eqS (.slice none 0 0)], 0⟩, ⟨some b2, 25, canI z, 0⟩], [], (0, false)⟩)) ?_ ?_
    · refine T_regionS ?_
      refine Run.oneB (ok_move rfl rfl) rfl rfl rfl (fun h6_0 => ?_) (fun h6_0 => ?_)
      · refine Run.one (ok_move rfl rfl) rfl rfl rfl ?_
        refine Run.one (ok_move rfl rfl) ⟨_, _, rfl, rfl, rfl⟩ rfl rfl ?_
        refine Run.one (ok_pick rfl rfl rfl) rfl rfl rfl ?_
        refine Run.nil ?_
        refine T_cond rfl rfl (fun h39 => ?_) (fun h39 => ?_)
        · have hx64 : x < 18446744073709551616 := by rw [hx]; exact of_decide_eq_true h6_0
          have hn64 : n < 18446744073709551616 := of_decide_eq_true h39
          refine T_regionS ?_
          refine Run.one ((ok_move rfl rfl).sub (int_eq (n := ((x : Nat) : Int)) (by rw [← hx, if_pos hx64]))) rfl rfl rfl ?_
          refine Run.one ((ok_move rfl rfl).sub (int_eq (n := ((n : Nat) : Int)) (if_pos hn64))) rfl rfl rfl ?_
          refine Run.one ((ok_call rfl rfl (rplain_spec hx64 hn64)).sub (int_eq (n := ((g : Nat) : Int)) (by rw [hg]))) rfl rfl rfl ?_
          refine Run.one (ok_assign rfl rfl) rfl rfl rfl ?_
          refine Run.nil ?_
          refine T_drawS 13 (by kernel_rfl) ?_
          refine Run.one (ok_fieldAddr_eq rfl rfl rfl) rfl rfl rfl ?_
          refine Run.one (ok_load_own 1 rfl rfl rfl rfl) rfl rfl rfl ?_
          refine Run.one ((ok_move rfl rfl).sub (int_eq (n := ((x : Nat) : Int)) (by rw [← hx, if_pos hx64]))) rfl rfl rfl ?_
          refine Run.one (ok_move rfl rfl) rfl rfl rfl ?_
          refine Run.one ((ok_quo rfl rfl rfl (by omega) (by omega) (by have := Nat.div_le_self x g; rw [← Int.natCast_ediv]; exact wrap_u64 (Int.natCast_nonneg _) (by omega))).sub (int_eq (n := ((x / g : Nat) : Int)) (Int.natCast_ediv _ _).symm)) rfl rfl rfl ?_
          refine Run.one (ok_call rfl rfl (rof_spec (by omega))) rfl rfl rfl ?_
          refine Run.one (ok_build rfl rfl rfl) rfl rfl rfl ?_
          refine Run.one (ok_call rfl rfl (rznorm_spec (by unfold cap; omega))) rfl rfl rfl ?_
          refine Run.one ((ok_move rfl rfl).sub (int_eq (n := ((n : Nat) : Int)) (if_pos hn64))) rfl rfl rfl ?_
          refine Run.one (ok_move rfl rfl) rfl rfl rfl ?_
          refine Run.one ((ok_quo rfl rfl rfl (by omega) (by omega) (by have := Nat.div_le_self n g; rw [← Int.natCast_ediv]; exact wrap_u64 (Int.natCast_nonneg _) (by omega))).sub (int_eq (n := ((n / g : Nat) : Int)) (Int.natCast_ediv _ _).symm)) rfl rfl rfl ?_
          refine Run.one (ok_call rfl rfl (rof_spec (by omega))) rfl rfl rfl ?_
          refine Run.one (ok_build rfl rfl rfl) rfl rfl rfl ?_
          refine Run.nil ?_
          refine Run.store 0 rfl rfl rfl rfl rfl rfl rfl rfl rfl ?_
          refine Run.one (ok_assign rfl rfl) rfl rfl rfl ?_
          refine Run.nil ?_
          refine T_ret ?_
          exact ⟨_, [], .many (.cons (.agg 0 inferInstance rfl rfl rfl rfl) (.cons (.tmp rfl) (.nil))), List.nil_sublist _, by rw [if_neg hn0, ← hqd]; rfl, rfl⟩
        · refine T_skip ?_
          exact ent_h (subG_cons rfl (subG_cons rfl (subG_cons rfl (subG_cons rfl (trivial))))) rfl
      · refine Run.one (ok_move rfl rfl) rfl rfl rfl ?_
        refine Run.no ⟨_, _, rfl, rfl, rfl⟩ rfl rfl ?_
        refine Run.one (ok_pick rfl rfl rfl) rfl rfl rfl ?_
        refine Run.nil ?_
        refine T_condF rfl rfl ?_
        refine T_skip ?_
        exact ent_h (subG_cons rfl (subG_cons rfl (subG_cons rfl (subG_cons rfl (trivial))))) rfl
    · intro S1 hS1
      refine T_pre hS1 ?_
      refine T_regionS ?_
      refine Run.one (ok_fieldAddr_eq rfl rfl rfl) rfl rfl rfl ?_
      refine Run.one (ok_load_own 1 rfl rfl rfl rfl) rfl rfl rfl ?_
      refine Run.one (ok_move rfl rfl) rfl rfl rfl ?_
      refine Run.one ((ok_call rfl rfl (rgcd_spec (by omega))).sub (show ∀ I v, (natS (dig (Nat.gcd z.natAbs n))).den I v → (natS (dig g)).den I v from fun I v h => by rw [← hx, ← hg] at h; exact h)) rfl rfl rfl ?_
      have hgl : (dig g).length ≤ j := dig_length_le (Nat.lt_of_le_of_lt (by rw [hg]; exact Nat.gcd_le_right _ hnp) (by have h1 := val_lt hd.lim; rw [hd.val] at h1; exact Nat.lt_of_lt_of_le h1 (Nat.pow_le_pow_right (by decide) hlend)))
      refine Run.one (ok_assign rfl rfl) rfl rfl rfl ?_
      refine Run.nil ?_
      refine T_regionS ?_
      refine Run.one (ok_fieldAddr_eq rfl rfl rfl) rfl rfl rfl ?_
      refine Run.one (ok_load_own 1 rfl rfl rfl rfl) rfl rfl rfl ?_
      refine Run.one (ok_move rfl rfl) rfl rfl rfl ?_
      refine Run.one (ok_call rfl rfl (rdiv_spec (by unfold cap; omega) (by unfold cap; omega))) rfl rfl rfl ?_
      refine Run.one (ok_move rfl rfl) rfl rfl rfl ?_
      refine Run.one ((ok_extract rfl rfl rfl).sub (show ∀ I v, (natS (dig (z.natAbs / g))).den I v → (natS (dig (x / g))).den I v from fun I v h => by rw [← hx] at h; exact h)) rfl rfl rfl ?_
      refine Run.one (ok_extract rfl rfl rfl) rfl rfl rfl ?_
      refine Run.one (ok_extract rfl rfl rfl) rfl rfl rfl ?_
      refine Run.one (ok_assign rfl rfl) rfl rfl rfl ?_
      refine Run.one (ok_assign rfl rfl) rfl rfl rfl ?_
      refine Run.one (ok_assign rfl rfl) rfl rfl rfl ?_
      refine Run.nil ?_
      refine T_regionS ?_
      refine Run.one (ok_move rfl rfl) rfl rfl rfl ?_
      refine Run.one (ok_move rfl rfl) rfl rfl rfl ?_
      refine Run.one (ok_call rfl rfl (rdiv_spec (by unfold cap; omega) (by unfold cap; omega))) rfl rfl rfl ?_
      refine Run.one (ok_move rfl rfl) rfl rfl rfl ?_
      refine Run.one (ok_extract rfl rfl rfl) rfl rfl rfl ?_
      refine Run.one (ok_extract rfl rfl rfl) rfl rfl rfl ?_
      refine Run.one (ok_extract rfl rfl rfl) rfl rfl rfl ?_
      refine Run.one (ok_assign rfl rfl) rfl rfl rfl ?_
      refine Run.one (ok_assign rfl rfl) rfl rfl rfl ?_
      refine Run.one (ok_assign rfl rfl) rfl rfl rfl ?_
      refine Run.nil ?_
      refine T_regionS ?_
      refine Run.one (ok_fieldAddr_eq rfl rfl rfl) rfl rfl rfl ?_
      refine Run.one (ok_load_own 1 rfl rfl rfl rfl) rfl rfl rfl ?_
      refine Run.one (ok_move rfl rfl) rfl rfl rfl ?_
      refine Run.one (ok_build rfl rfl rfl) rfl rfl rfl ?_
      refine Run.one (ok_call rfl rfl (rznorm_spec (by unfold cap; omega))) rfl rfl rfl ?_
      refine Run.one (ok_move rfl rfl) rfl rfl rfl ?_
      refine Run.one (ok_build rfl rfl rfl) rfl rfl rfl ?_
      refine Run.store 0 rfl rfl rfl rfl rfl rfl rfl rfl rfl ?_
      refine Run.one (ok_assign rfl rfl) rfl rfl rfl ?_
      refine Run.nil ?_
      refine T_ret ?_
      exact ⟨_, [], .many (.cons (.agg 0 inferInstance rfl rfl rfl rfl) (.cons (.tmp rfl) (.nil))), List.nil_sublist _, by rw [if_neg hn0, ← hqd]; rfl, rfl⟩
theorem rnewq_spec {b : Bool} {l d : List Nat} {q : Rat} {k : Nat} [h : IsQ b l d q k] (hs : 64 * k + 20000 ≤ 65536 := by decide) : PSpec Tryz.prog G 46 [aggS [boolS b, natS l], natS d] (tupS [aggS (canQ q), intS .i64 (if val d = 0 then 30 else 0)]) := by
  have i1 := h.z
  have i2 : IsNat d (val d) := isNat_of h.limd
  have i3 : Sz d k := ⟨h.lend⟩
  have := rnew_spec (G := G) (b := b) (l := l) (d := d) (z := sgn b (val l)) (n := val d) (k := k) (j := k) (by omega)
  rw [h.val] at this; exact this
theorem rqNorm_spec {b : Bool} {l d : List Nat} {q : Rat} {k : Nat} [h : IsQ b l d q k] (hs : 64 * k + 20000 ≤ 65536 := by decide) : PSpec Tryz.prog G 28 [aggS [boolS b, natS l, natS d]] (aggS (canQ q)) := by
  refine fn_spec Tryz.func28 rfl rfl rfl ?_
  refine T_regionS ?_
  refine Run.one (ok_box rfl rfl) rfl rfl rfl ?_
  refine Run.alloc rfl rfl rfl rfl rfl fun b2 => ?_
  refine Run.nil ?_
  refine T_regionS ?_
  refine Run.one (ok_fieldAddr rfl rfl rfl) rfl rfl rfl ?_
  refine Run.one (ok_load_agg rfl rfl rfl rfl) rfl rfl rfl ?_
  refine Run.one (ok_fieldAddr rfl rfl rfl) rfl rfl rfl ?_
  refine Run.one (ok_load rfl rfl) rfl rfl rfl ?_
  refine Run.one (ok_call rfl rfl (rnewq_spec hs)) rfl rfl rfl ?_
  refine Run.one (ok_move rfl rfl) rfl rfl rfl ?_
  refine Run.one (ok_extract rfl rfl rfl) rfl rfl rfl ?_
  refine Run.one (ok_extract rfl rfl rfl) rfl rfl rfl ?_
  refine Run.alloc rfl rfl rfl rfl rfl fun b3 => ?_
  refine Run.store 0 rfl rfl rfl rfl rfl rfl rfl rfl rfl ?_
  refine Run.one (ok_assign rfl rfl) rfl rfl rfl ?_
  refine Run.nil ?_
  refine T_regionS ?_
  refine Run.one (ok_load_own_agg 0 rfl rfl rfl rfl rfl) rfl rfl rfl ?_
  refine Run.store 1 rfl rfl rfl rfl rfl rfl rfl rfl rfl ?_
  refine Run.nil ?_
  refine T_ret ?_
  exact ⟨_, [], .one (.agg 1 inferInstance rfl rfl rfl rfl), List.nil_sublist _, rfl, rfl⟩
theorem rqSign_spec {b : Bool} {l d : List Nat} {q : Rat} {k : Nat} [h : IsQ b l d q k] (hs : 64 * k + 20000 ≤ 65536 := by decide) : PSpec Tryz.prog G 16 [aggS [boolS b, natS l, natS d]] (intS .i64 (tri q 0)) := by
  have i1 := h.z
  have i2 : IsNat d (val d) := isNat_of h.limd
  have hlend := h.lend
  have hv := h.val
  rw [← sign_tri]
  refine fn_spec Tryz.func16 rfl rfl rfl ?_
  refine T_regionS ?_
  refine Run.one (ok_box rfl rfl) rfl rfl rfl ?_
  refine Run.one (ok_assign rfl rfl) rfl rfl rfl ?_
  refine Run.nil ?_
  refine T_seq ?_
  refine T_regionS ?_
  refine Run.one (ok_fieldAddr rfl rfl rfl) rfl rfl rfl ?_
  refine Run.one (ok_load rfl rfl) rfl rfl rfl ?_
  refine Run.one (ok_call rfl rfl (rtrim_spec (by unfold cap; omega))) rfl rfl rfl ?_
  refine Run.one (ok_len rfl rfl) rfl rfl rfl ?_
  refine Run.one (ok_cmp rfl rfl rfl rfl) rfl rfl rfl ?_
  refine Run.nil ?_
  refine T_cond rfl rfl (fun h7 => ?_) (fun h7 => ?_)
  · have k7 := beq_iff_eq.1 h7
    have hd0 : val d = 0 := dig_len_zero.1 (by omega)
    rw [hd0, Rat.mkRat_zero] at hv
    refine T_regionS ?_
    refine Run.one (ok_assign rfl rfl) rfl rfl rfl ?_
    refine Run.nil ?_
    refine T_ret ?_
    exact ⟨_, [], .one (.tmp rfl), List.nil_sublist _, by rw [← hv]; rfl, rfl⟩
  · have k7 := beq_eq_false_iff_ne.1 h7
    have hd0 : val d ≠ 0 := fun h0 => k7 (by rw [h0, dig_zero]; rfl)
    refine T_skip ?_
    refine T_regionS ?_
    refine Run.one (ok_fieldAddr rfl rfl rfl) rfl rfl rfl ?_
    refine Run.one (ok_load_agg rfl rfl rfl rfl) rfl rfl rfl ?_
    refine Run.one ((ok_call rfl rfl (rzSign_spec (by unfold cap; omega))).sub (int_eq (n := q.num.sign) (by rw [← hv, mkRat_sign hd0]))) rfl rfl rfl ?_
    refine Run.one (ok_assign rfl rfl) rfl rfl rfl ?_
    refine Run.nil ?_
    refine T_ret ?_
    exact ⟨_, [], .one (.tmp rfl), List.nil_sublist _, rfl, rfl⟩
theorem rqtwo_spec {p q : Rat} {k j : Nat} [hx : Bq p k] [hy : Bq q j] (hs : 64 * (k + j) + 20100 ≤ 65536 := by decide) : PSpec Tryz.prog G 27 [aggS (canQ p), aggS (canQ q)] (aggS (canQ (p + q))) := by
  have i1 := hx.bz
  have i2 := hx.bd
  have i3 := hy.bz
  have i4 := hy.bd
  obtain ⟨g1, g2, g3⟩ := cross_lt hx hy
  have i5 : Bz (p.num * (q.den : Int) + q.num * (p.den : Int)) (k + j + 1) := ⟨Nat.lt_of_le_of_lt (Int.natAbs_add_le _ _) (dbl_lt g1 g2)⟩
  have hpl := hx.lens
  have hql := hy.lens
  refine fn_spec Tryz.func27 rfl rfl rfl ?_
  refine T_regionS ?_
  refine Run.one (ok_box rfl rfl) rfl rfl rfl ?_
  refine Run.one (ok_box rfl rfl) rfl rfl rfl ?_
  refine Run.alloc rfl rfl rfl rfl rfl fun b4 => ?_
  refine Run.nil ?_
  refine T_drawAS 25 (by kernel_rfl) rfl rfl ?_
  refine RunE.lat (ok_fieldAddr rfl rfl rfl) rfl rfl rfl ?_
  refine RunE.lat (ok_load_agg rfl rfl rfl rfl) rfl rfl rfl ?_
  refine RunE.lat (ok_fieldAddr rfl rfl rfl) rfl rfl rfl ?_
  refine RunE.lat (ok_load rfl rfl) rfl rfl rfl ?_
  refine RunE.lat (ok_call rfl rfl rover_spec) rfl rfl rfl ?_
  refine RunE.lat (ok_buildSlice rfl rfl (by decide) rfl (by simp) rfl rfl) rfl rfl rfl ?_
  refine RunE.lat (ok_call rfl rfl (rzmul2_spec (by unfold cap; omega))) rfl rfl rfl ?_
  refine RunE.lat (ok_fieldAddr rfl rfl rfl) rfl rfl rfl ?_
  refine RunE.lat (ok_load_agg rfl rfl rfl rfl) rfl rfl rfl ?_
  refine RunE.lat (ok_fieldAddr rfl rfl rfl) rfl rfl rfl ?_
  refine RunE.lat (ok_load rfl rfl) rfl rfl rfl ?_
  refine RunE.lat (ok_call rfl rfl rover_spec) rfl rfl rfl ?_
  refine RunE.lat (ok_buildSlice rfl rfl (by decide) rfl (by simp) rfl rfl) rfl rfl rfl ?_
  refine RunE.lat (ok_call rfl rfl (rzmul2_spec (by unfold cap; omega))) rfl rfl rfl ?_
  refine RunE.lat (ok_buildSlice rfl rfl (by decide) rfl (by simp) rfl rfl) rfl rfl rfl ?_
  refine RunE.lat (ok_call rfl rfl (rzadd2_spec (by unfold cap; omega))) rfl rfl rfl ?_
  refine RunE.lat (ok_fieldAddr rfl rfl rfl) rfl rfl rfl ?_
  refine RunE.lat (ok_load rfl rfl) rfl rfl rfl ?_
  refine RunE.lat (ok_fieldAddr rfl rfl rfl) rfl rfl rfl ?_
  refine RunE.lat (ok_load rfl rfl) rfl rfl rfl ?_
  refine RunE.lat (ok_call rfl rfl (rmul_spec (by unfold cap; omega))) rfl rfl rfl ?_
  refine RunE.lat (ok_call rfl rfl (rnew_spec (by omega))) rfl rfl rfl ?_
  refine RunE.lat (ok_move rfl rfl) rfl rfl rfl ?_
  refine RunE.lat (ok_extract rfl rfl rfl) rfl rfl rfl ?_
  refine RunE.lat (ok_extract rfl rfl rfl) rfl rfl rfl ?_
  refine RunE.nil ?_
  refine EffAA.mk1 rfl rfl rfl rfl rfl rfl rfl rfl (by intro h; cases h) rfl rfl rfl fun b5 => ?_
  refine Run.one (ok_assign rfl rfl) rfl rfl rfl ?_
  refine Run.nil ?_
  refine T_regionS ?_
  refine Run.one (ok_load_own_agg 0 rfl rfl rfl rfl rfl) rfl rfl rfl ?_
  refine Run.store 1 rfl rfl rfl rfl rfl rfl rfl rfl rfl ?_
  refine Run.nil ?_
  refine T_ret ?_
  exact ⟨_, [], .one (.agg 1 inferInstance rfl rfl rfl rfl), List.nil_sublist _, by rw [Rat.add_def']; rfl, rfl⟩
theorem rqneg_spec {b : Bool} {l d : List Nat} {q : Rat} {k : Nat} [h : IsQ b l d q k] (hs : 64 * k + 20000 ≤ 65536 := by decide) : PSpec Tryz.prog G 70 [aggS [boolS b, natS l, natS d]] (aggS (canQ (-q))) := by
  have i1 := h.bq.bz
  refine fn_spec Tryz.func70 rfl rfl rfl ?_
  refine T_regionS ?_
  refine Run.box rfl rfl rfl rfl rfl rfl fun b1 => ?_
  refine Run.alloc rfl rfl rfl rfl rfl fun b2 => ?_
  refine Run.nil ?_
  refine T_regionS ?_
  refine Run.one (ok_load_own_agg 1 rfl rfl rfl rfl rfl) rfl rfl rfl ?_
  refine Run.one (ok_call rfl rfl (rqNorm_spec hs)) rfl rfl rfl ?_
  refine Run.store 1 rfl rfl rfl rfl rfl rfl rfl rfl rfl ?_
  refine Run.nil ?_
  refine T_drawS 6 (by kernel_rfl) ?_
  refine Run.one (ok_fieldAddr_eq rfl rfl rfl) rfl rfl rfl ?_
  refine Run.one (ok_load_own_agg 1 rfl rfl rfl rfl rfl) rfl rfl rfl ?_
  refine Run.one (ok_call rfl rfl (rzneg_spec (by unfold cap; omega))) rfl rfl rfl ?_
  refine Run.one (ok_fieldAddr_eq rfl rfl rfl) rfl rfl rfl ?_
  refine Run.one (ok_load_own 1 rfl rfl rfl rfl) rfl rfl rfl ?_
  refine Run.one (ok_build rfl rfl rfl) rfl rfl rfl ?_
  refine Run.nil ?_
  refine Run.store 0 rfl rfl rfl rfl rfl rfl rfl rfl rfl ?_
  refine Run.nil ?_
  refine T_ret ?_
  exact ⟨_, [], .one (.agg 0 inferInstance rfl rfl rfl rfl), List.nil_sublist _, rfl, rfl⟩
theorem rqadd_spec {xs : List (Bool × List Nat × List Nat)} (hl : ∀ p ∈ xs, Lim p.2.1 ∧ Lim p.2.2) (hs : 64 * sqs xs xs.length + 21000 ≤ 65536) : PSpec Tryz.prog G 13 [slS 3 qc xs] (aggS (canQ (xs.foldl (fun z p => z + qv p) 0))) := by
  refine fn_spec Tryz.func13 rfl rfl rfl ?_
  refine T_regionS ?_
  refine Run.alloc rfl rfl rfl rfl rfl fun b2 => ?_
  refine Run.nil ?_
  refine T_regionS ?_
  refine Run.one (ok_call rfl rfl (rqOf_spec (n := 0) (q := 0) (by decide) (by decide))) rfl rfl rfl ?_
  refine Run.alloc rfl rfl rfl rfl rfl fun b3 => ?_
  refine Run.store 0 rfl rfl rfl rfl rfl rfl rfl rfl rfl ?_
  refine Run.nil ?_
  refine T_seq ?_
  refine T_regionS ?_
  refine Run.one (ok_assign rfl rfl) rfl rfl rfl ?_
  refine Run.nil ?_
  refine T_block ?_
  refine T_len 0 rfl fun la => ?_
  unfold big at la
  refine T_loop2 (fun (i : Nat) (acc : Rat) => ⟨_, [(4, intS .i64 (i : Nat)), (3, eqS (.pointer (some ⟨b3, 0, none⟩))), (2, eqS (.pointer (some ⟨b2, 0, none⟩))), (0, slS 3 qc xs)], [⟨some b3, 27, canQ acc, 0⟩, ⟨some b2, 27, [eqS (.bool false), eqS (.slice none 0 0), eqS (.slice none 0 0)], 0⟩], [], (0, false)⟩)
      (fun i acc => i ≤ xs.length ∧ acc = (xs.take i).foldl (fun z p => z + qv p) 0 ∧ Bq acc (sqs xs i + 1)) (fun i acc => xs.length - i)
      0 0 ⟨Nat.zero_le _, rfl, bq_le (l := sqs xs 0 + 1) (show Bq 0 1 from inferInstance) (by omega)⟩ (ent_h (subG_cons rfl (subG_cons rfl (subG_cons rfl (subG_cons rfl (trivial))))) rfl) ?_
  rintro i acc ⟨hi, hacc, hbz⟩
  refine T_seq ?_
  refine T_regionS ?_
  refine Run.one (ok_move rfl rfl) rfl rfl rfl ?_
  refine Run.one (ok_move rfl rfl) rfl rfl rfl ?_
  refine Run.one (ok_len rfl rfl) rfl rfl rfl ?_
  refine Run.one (ok_cmp rfl rfl rfl rfl) rfl rfl rfl ?_
  refine Run.nil ?_
  refine T_cond rfl rfl (fun h9 => ?_) (fun h9 => ?_)
  · have k9 := of_decide_eq_true h9
    obtain ⟨⟨b, m, d⟩, hp⟩ : ∃ p, xs[i]? = some p := ⟨_, List.getElem?_eq_getElem (by omega)⟩
    have hpm : (b, m, d) ∈ xs := List.mem_of_getElem? hp
    have i1 : IsQ b m d (qv (b, m, d)) (qsz (b, m, d)) := isQ_of (hl _ hpm).1 (hl _ hpm).2
    have i2 := i1.bq
    have hs1 := sqs_succ hp
    have hs2 := sqs_le xs (i + 1)
    refine T_skip ?_
    refine T_seq ?_
    refine T_block ?_
    refine T_draw 7 (by kernel_rfl) ?_
    refine Run.one (ok_load_own_agg 0 rfl rfl rfl rfl rfl) rfl rfl rfl ?_
    refine Run.one (ok_move rfl rfl) rfl rfl rfl ?_
    refine Run.one (ok_move rfl rfl) rfl rfl rfl ?_
    refine Run.one (ok_indexAddr rfl rfl rfl (by omega) (y := (b, m, d)) (hp)) rfl rfl rfl ?_
    refine Run.one ((show OpOK _ _ _ _ _ (aggS [boolS b, natS m, natS d]) from ok_load_agg rfl rfl rfl rfl)) rfl rfl rfl ?_
    refine Run.one (ok_call rfl rfl (rqNorm_spec (by omega))) rfl rfl rfl ?_
    refine Run.one (ok_call rfl rfl (rqtwo_spec (by omega))) rfl rfl rfl ?_
    refine Run.nil ?_
    refine Run.store 0 rfl rfl rfl rfl rfl rfl rfl rfl rfl ?_
    refine Run.nil ?_
    refine T_region ?_
    refine Run.one (ok_move rfl rfl) rfl rfl rfl ?_
    refine Run.one (ok_ari rfl rfl rfl rfl (wrap_i64 (by omega) (by omega))) rfl rfl rfl ?_
    refine Run.one (ok_assign rfl rfl) rfl rfl rfl ?_
    refine Run.nil ?_
    exact ⟨i + 1, acc + qv (b, m, d), ⟨by omega, by rw [hacc, foldl_take (fun z p => z + qv p) 0 hp], bq_le (bq_add (hp := hbz) (hq := i2)) (by omega)⟩, by omega, ent_h (subG_cons rfl (subG_cons rfl (subG_cons rfl (subG_cons rfl (trivial))))) rfl⟩
  · have k9 := of_decide_eq_false h9
    have hie : i = xs.length := by omega
    rw [hie, List.take_length] at hacc
    refine T_exit ?_
    refine T_regionS ?_
    refine Run.one (ok_load_own_agg 0 rfl rfl rfl rfl rfl) rfl rfl rfl ?_
    refine Run.store 1 rfl rfl rfl rfl rfl rfl rfl rfl rfl ?_
    refine Run.nil ?_
    refine T_ret ?_
    exact ⟨_, [], .one (.agg 1 inferInstance rfl rfl rfl rfl), List.nil_sublist _, by rw [hacc]; rfl, rfl⟩
theorem rqadd2_spec {b c : Bool} {l d m e : List Nat} {p q : Rat} {k j : Nat} [hx : IsQ b l d p k] [hy : IsQ c m e q j] (hs : 64 * (k + j) + 22000 ≤ 65536 := by decide) : PSpec Tryz.prog G 13 [slS 3 id [[boolS b, natS l, natS d], [boolS c, natS m, natS e]]] (aggS (canQ (p + q))) := by
  have h := rqadd_spec (G := G) (xs := [(b, l, d), (c, m, e)]) (by intro x hp; rcases List.mem_cons.1 hp with rfl | hp; exact ⟨hx.lim, hx.limd⟩; rw [List.mem_singleton.1 hp]; exact ⟨hy.lim, hy.limd⟩) (by have := hx.len; have := hy.len; have := hx.lend; have := hy.lend; have := hx.pos; have := hy.pos; simp only [sqs, qsz, List.length_cons, List.length_nil, List.take, List.map, List.sum_cons, List.sum_nil]; omega)
  have ee : [(b, l, d), (c, m, e)].foldl (fun z p => z + qv p) 0 = p + q := by show 0 + mkRat (sgn b (val l)) (val d) + mkRat (sgn c (val m)) (val e) = _; rw [hx.val, hy.val, Rat.zero_add]
  rw [ee] at h
  exact h.args ⟨fun I v hv => sl_pair [(b, l, d), (c, m, e)] hv, trivial⟩
theorem rqmul_spec {xs : List (Bool × List Nat × List Nat)} (hl : ∀ p ∈ xs, Lim p.2.1 ∧ Lim p.2.2) (hs : 64 * sqs xs xs.length + 21000 ≤ 65536) : PSpec Tryz.prog G 50 [slS 3 qc xs] (aggS (canQ (xs.foldl (fun z p => z * qv p) 1))) := by
  refine fn_spec Tryz.func50 rfl rfl rfl ?_
  refine T_regionS ?_
  refine Run.alloc rfl rfl rfl rfl rfl fun b2 => ?_
  refine Run.nil ?_
  refine T_regionS ?_
  refine Run.one (ok_call rfl rfl (rqOf_spec (n := 1) (q := 1) (by decide) (by decide))) rfl rfl rfl ?_
  refine Run.alloc rfl rfl rfl rfl rfl fun b3 => ?_
  refine Run.store 0 rfl rfl rfl rfl rfl rfl rfl rfl rfl ?_
  refine Run.nil ?_
  refine T_seq ?_
  refine T_regionS ?_
  refine Run.one (ok_assign rfl rfl) rfl rfl rfl ?_
  refine Run.nil ?_
  refine T_block ?_
  refine T_len 0 rfl fun la => ?_
  unfold big at la
  refine T_loop2 (fun (i : Nat) (acc : Rat) => ⟨_, [(4, intS .i64 (i : Nat)), (3, eqS (.pointer (some ⟨b3, 0, none⟩))), (2, eqS (.pointer (some ⟨b2, 0, none⟩))), (0, slS 3 qc xs)], [⟨some b3, 27, canQ acc, 0⟩, ⟨some b2, 27, [eqS (.bool false), eqS (.slice none 0 0), eqS (.slice none 0 0)], 0⟩], [], (0, false)⟩)
      (fun i acc => i ≤ xs.length ∧ acc = (xs.take i).foldl (fun z p => z * qv p) 1 ∧ Bq acc (sqs xs i + 1)) (fun i acc => xs.length - i)
      0 1 ⟨Nat.zero_le _, rfl, bq_le (l := sqs xs 0 + 1) (show Bq 1 1 from inferInstance) (by omega)⟩ (ent_h (subG_cons rfl (subG_cons rfl (subG_cons rfl (subG_cons rfl (trivial))))) rfl) ?_
  rintro i acc ⟨hi, hacc, hbz⟩
  refine T_seq ?_
  refine T_regionS ?_
  refine Run.one (ok_move rfl rfl) rfl rfl rfl ?_
  refine Run.one (ok_move rfl rfl) rfl rfl rfl ?_
  refine Run.one (ok_len rfl rfl) rfl rfl rfl ?_
  refine Run.one (ok_cmp rfl rfl rfl rfl) rfl rfl rfl ?_
  refine Run.nil ?_
  refine T_cond rfl rfl (fun h10 => ?_) (fun h10 => ?_)
  · have k10 := of_decide_eq_true h10
    obtain ⟨⟨b, m, d⟩, hp⟩ : ∃ p, xs[i]? = some p := ⟨_, List.getElem?_eq_getElem (by omega)⟩
    have hpm : (b, m, d) ∈ xs := List.mem_of_getElem? hp
    have i1 : IsQ b m d (qv (b, m, d)) (qsz (b, m, d)) := isQ_of (hl _ hpm).1 (hl _ hpm).2
    have i2 := i1.bq
    have hs1 := sqs_succ hp
    have hs2 := sqs_le xs (i + 1)
    obtain ⟨x, hxe⟩ : ∃ x, x = qv (b, m, d) := ⟨_, rfl⟩
    rw [← hxe] at i1 i2
    have j1 := hbz.bz
    have j2 := hbz.bd
    have j3 := i2.bz
    have j4 := i2.bd
    have j5 := hbz.lens
    have j6 := i2.lens
    refine T_skip ?_
    refine T_seq ?_
    refine T_block ?_
    refine T_regionS ?_
    refine Run.one (ok_move rfl rfl) rfl rfl rfl ?_
    refine Run.one (ok_move rfl rfl) rfl rfl rfl ?_
    refine Run.one (ok_indexAddr rfl rfl rfl (by omega) (y := (b, m, d)) (hp)) rfl rfl rfl ?_
    refine Run.one ((show OpOK _ _ _ _ _ (aggS [boolS b, natS m, natS d]) from ok_load_agg rfl rfl rfl rfl)) rfl rfl rfl ?_
    refine Run.one (ok_call rfl rfl (rqNorm_spec (by omega))) rfl rfl rfl ?_
    refine Run.alloc rfl rfl rfl rfl rfl fun b5 => ?_
    refine Run.store 0 rfl rfl rfl rfl rfl rfl rfl rfl rfl ?_
    refine Run.nil ?_
    refine T_drawE 15 _ (by kernel_rfl) rfl (.cons_cons _ (.cons _ (.cons_cons _ .slnil))) ?_
    refine RunE.one (ok_fieldAddr_eq rfl rfl rfl) rfl rfl rfl (by kernel_rfl) ?_
    refine RunE.one (ok_load_own_agg 1 rfl rfl rfl rfl rfl) rfl rfl rfl (by kernel_rfl) ?_
    refine RunE.one (ok_fieldAddr_eq rfl rfl rfl) rfl rfl rfl (by kernel_rfl) ?_
    refine RunE.one (ok_load_own_agg 0 rfl rfl rfl rfl rfl) rfl rfl rfl (by kernel_rfl) ?_
    refine RunE.one (ok_buildSlice rfl rfl (by decide) rfl (by simp) rfl rfl) rfl rfl rfl (by kernel_rfl) ?_
    refine RunE.one (ok_call rfl rfl (rzmul2_spec (by unfold cap; omega))) rfl rfl rfl (by kernel_rfl) ?_
    refine RunE.one (ok_fieldAddr_eq rfl rfl rfl) rfl rfl rfl (by kernel_rfl) ?_
    refine RunE.one (ok_load_own 1 rfl rfl rfl rfl) rfl rfl rfl (by kernel_rfl) ?_
    refine RunE.one (ok_fieldAddr_eq rfl rfl rfl) rfl rfl rfl (by kernel_rfl) ?_
    refine RunE.one (ok_load_own 0 rfl rfl rfl rfl) rfl rfl rfl (by kernel_rfl) ?_
    refine RunE.one (ok_call rfl rfl (rmul_spec (by unfold cap; omega))) rfl rfl rfl (by kernel_rfl) ?_
    refine RunE.one (ok_call rfl rfl (rnew_spec (by omega))) rfl rfl rfl (by kernel_rfl) ?_
    refine RunE.one (ok_move rfl rfl) rfl rfl rfl (by kernel_rfl) ?_
    refine RunE.one ((ok_extract rfl rfl rfl).sub (show ∀ I v, (aggS (canQ (mkRat (acc.num * x.num) (acc.den * x.den)))).den I v → (aggS (canQ (acc * x))).den I v from fun I v h => by rw [Rat.mul_def']; exact h)) rfl rfl rfl (by kernel_rfl) ?_
    refine RunE.lat (ok_extract rfl rfl rfl) rfl rfl rfl ?_
    refine RunE.nil ?_
    refine EffAt.store 1 rfl rfl rfl rfl rfl rfl rfl rfl (.cons_cons _ (.cons _ (.cons_cons _ .slnil))) ?_
    refine Run.nil ?_
    refine T_ghost (ghost_drop (List.sublist_cons_self _ _)) ?_
    refine T_region ?_
    refine Run.one (ok_move rfl rfl) rfl rfl rfl ?_
    refine Run.one (ok_ari rfl rfl rfl rfl (wrap_i64 (by omega) (by omega))) rfl rfl rfl ?_
    refine Run.one (ok_assign rfl rfl) rfl rfl rfl ?_
    refine Run.nil ?_
    exact ⟨i + 1, acc * x, ⟨by omega, by rw [hacc, hxe, foldl_take (fun z p => z * qv p) 1 hp], bq_le (bq_mul (hp := hbz) (hq := i2)) (by omega)⟩, by omega, ent_h (subG_cons rfl (subG_cons rfl (subG_cons rfl (subG_cons rfl (trivial))))) rfl⟩
  · have k10 := of_decide_eq_false h10
    have hie : i = xs.length := by omega
    rw [hie, List.take_length] at hacc
    refine T_exit ?_
    refine T_regionS ?_
    refine Run.one (ok_load_own_agg 0 rfl rfl rfl rfl rfl) rfl rfl rfl ?_
    refine Run.store 1 rfl rfl rfl rfl rfl rfl rfl rfl rfl ?_
    refine Run.nil ?_
    refine T_ret ?_
    exact ⟨_, [], .one (.agg 1 inferInstance rfl rfl rfl rfl), List.nil_sublist _, by rw [hacc]; rfl, rfl⟩
theorem rqmul2_spec {b c : Bool} {l d m e : List Nat} {p q : Rat} {k j : Nat} [hx : IsQ b l d p k] [hy : IsQ c m e q j] (hs : 64 * (k + j) + 22000 ≤ 65536 := by decide) : PSpec Tryz.prog G 50 [slS 3 id [[boolS b, natS l, natS d], [boolS c, natS m, natS e]]] (aggS (canQ (p * q))) := by
  have h := rqmul_spec (G := G) (xs := [(b, l, d), (c, m, e)]) (by intro x hp; rcases List.mem_cons.1 hp with rfl | hp; exact ⟨hx.lim, hx.limd⟩; rw [List.mem_singleton.1 hp]; exact ⟨hy.lim, hy.limd⟩) (by have := hx.len; have := hy.len; have := hx.lend; have := hy.lend; have := hx.pos; have := hy.pos; simp only [sqs, qsz, List.length_cons, List.length_nil, List.take, List.map, List.sum_cons, List.sum_nil]; omega)
  have ee : [(b, l, d), (c, m, e)].foldl (fun z p => z * qv p) 1 = p * q := by show 1 * mkRat (sgn b (val l)) (val d) * mkRat (sgn c (val m)) (val e) = _; rw [hx.val, hy.val, Rat.one_mul]
  rw [ee] at h
  exact h.args ⟨fun I v hv => sl_pair [(b, l, d), (c, m, e)] hv, trivial⟩
theorem rqsub_spec {b c : Bool} {l d m e : List Nat} {p q : Rat} {k j : Nat} [hx : IsQ b l d p k] [hy : IsQ c m e q j] (hs : 64 * (k + j) + 22000 ≤ 65536 := by decide) : PSpec Tryz.prog G 49 [aggS [boolS b, natS l, natS d], aggS [boolS c, natS m, natS e]] (aggS (canQ (p - q))) := by
  have i1 := hx.bq
  have i2 := hy.bq
  refine fn_spec Tryz.func49 rfl rfl rfl ?_
  refine T_regionS ?_
  refine Run.one (ok_box rfl rfl) rfl rfl rfl ?_
  refine Run.one (ok_box rfl rfl) rfl rfl rfl ?_
  refine Run.alloc rfl rfl rfl rfl rfl fun b4 => ?_
  refine Run.nil ?_
  refine T_drawS 5 (by kernel_rfl) ?_
  refine Run.one (ok_load_agg rfl rfl rfl rfl) rfl rfl rfl ?_
  refine Run.one (ok_load_agg rfl rfl rfl rfl) rfl rfl rfl ?_
  refine Run.one (ok_call rfl rfl (rqneg_spec (by omega))) rfl rfl rfl ?_
  refine Run.one (ok_buildSlice rfl rfl (by decide) rfl (by simp) rfl rfl) rfl rfl rfl ?_
  refine Run.one ((ok_call rfl rfl (rqadd2_spec hs)).sub (show ∀ I v, (aggS (canQ (p + -q))).den I v → (aggS (canQ (p - q))).den I v from fun I v h => by rw [Rat.sub_eq_add_neg]; exact h)) rfl rfl rfl ?_
  refine Run.nil ?_
  refine Run.store 0 rfl rfl rfl rfl rfl rfl rfl rfl rfl ?_
  refine Run.nil ?_
  refine T_ret ?_
  exact ⟨_, [], .one (.agg 0 inferInstance rfl rfl rfl rfl), List.nil_sublist _, rfl, rfl⟩
theorem rqcmp_spec {b c : Bool} {l d m e : List Nat} {p q : Rat} {k j : Nat} [hx : IsQ b l d p k] [hy : IsQ c m e q j] (hs : 64 * (k + j) + 22000 ≤ 65536 := by decide) : PSpec Tryz.prog G 17 [aggS [boolS b, natS l, natS d], aggS [boolS c, natS m, natS e]] (intS .i64 (tri p q)) := by
  have hxb := hx.bq
  have hyb := hy.bq
  have i1 := hxb.bz
  have i2 := hxb.bd
  have i3 := hyb.bz
  have i4 := hyb.bd
  refine fn_spec Tryz.func17 rfl rfl rfl ?_
  refine T_regionS ?_
  refine Run.box rfl rfl rfl rfl rfl rfl fun b2 => ?_
  refine Run.box rfl rfl rfl rfl rfl rfl fun b3 => ?_
  refine Run.one (ok_assign rfl rfl) rfl rfl rfl ?_
  refine Run.nil ?_
  refine T_drawS 4 (by kernel_rfl) ?_
  refine Run.one (ok_load_own_agg 1 rfl rfl rfl rfl rfl) rfl rfl rfl ?_
  refine Run.one (ok_call rfl rfl (rqNorm_spec (by omega))) rfl rfl rfl ?_
  refine Run.one (ok_load_own_agg 0 rfl rfl rfl rfl rfl) rfl rfl rfl ?_
  refine Run.one (ok_call rfl rfl (rqNorm_spec (by omega))) rfl rfl rfl ?_
  refine Run.nil ?_
  refine Run.store 1 rfl rfl rfl rfl rfl rfl rfl rfl rfl ?_
  refine Run.store 0 rfl rfl rfl rfl rfl rfl rfl rfl rfl ?_
  refine Run.nil ?_
  refine T_drawS 17 (by kernel_rfl) ?_
  refine Run.one (ok_fieldAddr_eq rfl rfl rfl) rfl rfl rfl ?_
  refine Run.one (ok_load_own_agg 1 rfl rfl rfl rfl rfl) rfl rfl rfl ?_
  refine Run.one (ok_fieldAddr_eq rfl rfl rfl) rfl rfl rfl ?_
  refine Run.one (ok_load_own 0 rfl rfl rfl rfl) rfl rfl rfl ?_
  refine Run.one (ok_call rfl rfl rover_spec) rfl rfl rfl ?_
  refine Run.one (ok_buildSlice rfl rfl (by decide) rfl (by simp) rfl rfl) rfl rfl rfl ?_
  refine Run.one (ok_call rfl rfl (rzmul2_spec (by unfold cap; omega))) rfl rfl rfl ?_
  refine Run.one (ok_fieldAddr_eq rfl rfl rfl) rfl rfl rfl ?_
  refine Run.one (ok_load_own_agg 0 rfl rfl rfl rfl rfl) rfl rfl rfl ?_
  refine Run.one (ok_fieldAddr_eq rfl rfl rfl) rfl rfl rfl ?_
  refine Run.one (ok_load_own 1 rfl rfl rfl rfl) rfl rfl rfl ?_
  refine Run.one (ok_call rfl rfl rover_spec) rfl rfl rfl ?_
  refine Run.one (ok_buildSlice rfl rfl (by decide) rfl (by simp) rfl rfl) rfl rfl rfl ?_
  refine Run.one (ok_call rfl rfl (rzmul2_spec (by unfold cap; omega))) rfl rfl rfl ?_
  refine Run.one (ok_call rfl rfl (rzsub_spec (by unfold cap; omega))) rfl rfl rfl ?_
  refine Run.one ((ok_call rfl rfl (rzSign_spec (by unfold cap; omega))).sub (int_eq cmp_sign)) rfl rfl rfl ?_
  refine Run.one (ok_assign rfl rfl) rfl rfl rfl ?_
  refine Run.nil ?_
  refine Run.nil ?_
  refine T_ret ?_
  exact ⟨_, [], .one (.tmp rfl), List.nil_sublist _, rfl, rfl⟩
theorem rqsame_spec {b c : Bool} {l d m e : List Nat} {p q : Rat} {k j : Nat} [hx : IsQ b l d p k] [hy : IsQ c m e q j] (hs : 64 * (k + j) + 22000 ≤ 65536 := by decide) : PSpec Tryz.prog G 12 [aggS [boolS b, natS l, natS d], aggS [boolS c, natS m, natS e]] (boolS (decide (p = q))) := by
  refine fn_spec Tryz.func12 rfl rfl rfl ?_
  refine T_regionS ?_
  refine Run.one (ok_box rfl rfl) rfl rfl rfl ?_
  refine Run.one (ok_box rfl rfl) rfl rfl rfl ?_
  refine Run.one (ok_assign rfl rfl) rfl rfl rfl ?_
  refine Run.nil ?_
  refine T_regionS ?_
  refine Run.one (ok_load_agg rfl rfl rfl rfl) rfl rfl rfl ?_
  refine Run.one (ok_load_agg rfl rfl rfl rfl) rfl rfl rfl ?_
  refine Run.one (ok_call rfl rfl (rqcmp_spec hs)) rfl rfl rfl ?_
  refine Run.one ((ok_cmp rfl rfl rfl rfl).sub (bool_eq tri_zero)) rfl rfl rfl ?_
  refine Run.one (ok_assign rfl rfl) rfl rfl rfl ?_
  refine Run.nil ?_
  refine T_ret ?_
  exact ⟨_, [], .one (.tmp rfl), List.nil_sublist _, rfl, rfl⟩
end Go.Proofs
