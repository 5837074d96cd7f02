/- Rationals: straitref07. -/
import Derived.Test.YtcdlcfihjfhkgaaGreatDoorSns
import Derived.Test.YtcdlcfihjfhkgaaGreatDoorSv1
namespace Go.Proofs
open Go Go.Sv Num
variable {G : Imm}
theorem tri_zero {p q : Rat} : (tri p q == 0) = decide (p = q) := by
  unfold tri
  by_cases h1 : p < q
  · rw [if_pos h1, decide_eq_false (fun h => Rat.lt_irrefl (h ▸ h1))]; rfl
  · rw [if_neg h1]
    by_cases h2 : q < p
    · rw [if_pos h2, decide_eq_false (fun h => Rat.lt_irrefl (h ▸ h2))]; rfl
    · rw [if_neg h2, decide_eq_true (Rat.le_antisymm (Rat.not_lt.1 h2) (Rat.not_lt.1 h1))]; rfl
theorem sign_tri {q : Rat} : q.num.sign = tri q 0 := by
  rw [← cmp_sign]; simp
theorem mkRat_sign {z : Int} {d : Nat} (hd : d ≠ 0) : (mkRat z d).num.sign = z.sign := by
  have h3 := mkRat_num (b := decide (z < 0)) (a := z.natAbs) hd
  have h4 := mkRat_neg (b := decide (z < 0)) (a := z.natAbs) hd
  have h5 : (mkRat z d).num = 0 ↔ z = 0 := by
    rw [Rat.num_eq_zero]; exact Rat.mkRat_eq_zero hd
  rw [sgn_self] at h4
  by_cases hz : z < 0
  · have h6 : (mkRat z d).num < 0 := by
      rw [decide_eq_true hz, Bool.true_and, decide_eq_true (show z.natAbs ≠ 0 by omega)] at h4; exact of_decide_eq_true h4
    rw [Int.sign_eq_neg_one_of_neg hz, Int.sign_eq_neg_one_of_neg h6]
  · have h6 : ¬ (mkRat z d).num < 0 := by
      rw [decide_eq_false hz, Bool.false_and] at h4; exact of_decide_eq_false h4
    by_cases h0 : z = 0
    · rw [h0, Rat.zero_mkRat]; rfl
    · rw [Int.sign_eq_one_of_pos (by omega), Int.sign_eq_one_of_pos (by have := mt h5.1 h0; omega)]
theorem inv_mk (q : Rat) : q⁻¹ = mkRat (sgn (decide (q.num < 0)) q.den) q.num.natAbs := by
  rw [Rat.inv_def]
  obtain ⟨n, hn⟩ : ∃ n, n = q.num := ⟨_, rfl⟩
  rw [← hn]
  rcases Int.lt_or_le n 0 with h | h
  · obtain ⟨m, rfl⟩ : ∃ m : Nat, n = -(m : Int) := ⟨n.natAbs, by omega⟩
    rw [Rat.divInt_neg', Rat.divInt_ofNat, decide_eq_true h, Int.natAbs_neg, Int.natAbs_natCast]; rfl
  · obtain ⟨m, rfl⟩ : ∃ m : Nat, n = (m : Int) := ⟨n.natAbs, by omega⟩
    rw [Rat.divInt_ofNat, decide_eq_false (by omega), Int.natAbs_natCast]; rfl
theorem quo_mk (p q : Rat) : mkRat (p.num * sgn (decide (q.num < 0)) q.den) (p.den * q.num.natAbs) = p / q := by
  rw [Rat.div_def, inv_mk q, ← Rat.mkRat_mul_mkRat, Rat.mkRat_self]
instance bq_div {p q : Rat} {k j : Nat} [hp : Bq p k] [hq : Bq q j] : Bq (p / q) (k + j) := by
  rw [← quo_mk]
  exact bq_mkRat (by rw [Int.natAbs_mul, sgn_natAbs, Nat.pow_add]; exact Nat.mul_lt_mul'' hp.num hq.den) (by rw [Nat.pow_add]; exact Nat.mul_lt_mul'' hp.den hq.num) (by have := hp.pos; omega)
theorem IsQ.z {b : Bool} {l d : List Nat} {q : Rat} {k : Nat} (h : IsQ b l d q k) : IsZ b l (sgn b (Num.val l)) k := ⟨h.lim, rfl, h.len⟩
theorem rqOf_spec {n : Int} {q : Rat} (h1 : -9223372036854775808 ≤ n) (h2 : n ≤ 9223372036854775807) (hq : (n : Rat) = q := by rfl) : PSpec Tryz.prog G 28 [intS .i64 n] (aggS (canQ q)) := by
  refine fn_spec Tryz.func28 rfl rfl rfl ?_
  refine T_regionS ?_
  refine Run.alloc rfl rfl rfl rfl rfl fun b2 => ?_
  refine Run.nil ?_
  refine T_regionS ?_
  refine Run.one (ok_move rfl rfl) rfl rfl rfl ?_
  refine Run.one (ok_call rfl rfl (rzOf_spec h1 h2)) rfl rfl rfl ?_
  refine Run.one (ok_buildNat [1] rfl rfl (by decide) rfl (by simp) rfl rfl rfl) rfl rfl rfl ?_
  refine Run.one (ok_build rfl rfl rfl) rfl rfl rfl ?_
  refine Run.store 0 rfl rfl rfl rfl rfl rfl rfl rfl rfl ?_
  refine Run.nil ?_
  refine T_ret ?_
  exact ⟨_, [], .one (.agg 0 inferInstance rfl rfl rfl rfl), List.nil_sublist _, by rw [← hq]; show _ = aggS [boolS (decide (n < 0)), natS (dig n.natAbs), natS (dig 1)]; rw [dig_one]; rfl, rfl⟩
theorem rnew_spec {b : Bool} {l d : List Nat} {z : Int} {n k j : Nat} [h : IsZ b l z k] [hd : IsNat d n] [hk : Sz d j] (hs : 32 * (k + j) + 20000 ≤ 65536 := by decide) : PSpec Tryz.prog G 26 [aggS [boolS b, natS l], natS d] (tupS [aggS (canQ (mkRat z n)), intS .i64 (if n = 0 then 30 else 0)]) := by
  have hlen := h.len
  have hlend := hk.h
  have hb := h.bz.len
  refine fn_spec Tryz.func26 rfl rfl rfl ?_
  refine T_regionS ?_
  refine Run.box rfl rfl rfl rfl rfl rfl fun b2 => ?_
  refine Run.alloc rfl rfl rfl rfl rfl fun b4 => ?_
  refine Run.one (ok_assign rfl rfl) rfl rfl rfl ?_
  refine Run.nil ?_
  refine T_seq ?_
  refine T_regionS ?_
  refine Run.one (ok_move rfl rfl) rfl rfl rfl ?_
  refine Run.one (ok_call rfl rfl (rtrim_spec (by unfold cap; omega))) rfl rfl rfl ?_
  refine Run.one (ok_len rfl rfl) rfl rfl rfl ?_
  refine Run.one (ok_cmp rfl rfl rfl rfl) rfl rfl rfl ?_
  refine Run.nil ?_
  refine T_cond rfl rfl (fun h21 => ?_) (fun h21 => ?_)
  · have k21 := beq_iff_eq.1 h21
    have hn0 : n = 0 := dig_len_zero.1 (by omega)
    refine T_regionS ?_
    refine Run.one (ok_call rfl rfl (rqOf_spec (n := 0) (q := mkRat z n) (by decide) (by decide) (by rw [hn0, Rat.mkRat_zero]; rfl))) rfl rfl rfl ?_
    refine Run.store 0 rfl rfl rfl rfl rfl rfl rfl rfl rfl ?_
    refine Run.one (ok_assign rfl rfl) rfl rfl rfl ?_
    refine Run.nil ?_
    refine T_ret ?_
    exact ⟨_, [], .many (.cons (.agg 0 inferInstance rfl rfl rfl rfl) (.cons (.tmp rfl) (.nil))), List.nil_sublist _, by rw [if_pos hn0]; rfl, rfl⟩
  · have k21 := beq_eq_false_iff_ne.1 h21
    have hn0 : n ≠ 0 := fun h0 => k21 (by rw [h0, dig_zero]; rfl)
    have hnp := Nat.pos_of_ne_zero hn0
    obtain ⟨x, hx⟩ : ∃ x, x = z.natAbs := ⟨_, rfl⟩
    obtain ⟨g, hg⟩ : ∃ g, g = Nat.gcd x n := ⟨_, rfl⟩
    have hg0 : 0 < g := by rw [hg]; exact Nat.gcd_pos_of_pos_right _ hnp
    have hqn := mkRat_num (b := decide (z < 0)) (a := z.natAbs) hn0
    have hqd := mkRat_den (b := decide (z < 0)) (a := z.natAbs) hn0
    rw [sgn_self, ← hx, ← hg] at hqn hqd
    obtain ⟨q, hq⟩ : ∃ q, q = mkRat z n := ⟨_, rfl⟩
    rw [← hq] at hqn hqd ⊢
    have hxg : x / g ≤ x := Nat.div_le_self _ _
    have hng : n / g ≤ n := Nat.div_le_self _ _
    have hxl : x < 4294967296 ^ k := by rw [hx]; exact h.bz.h
    have i1 : IsZ (decide (z < 0)) (dig (x / g)) q.num k := ⟨lim_dig _, by rw [val_dig, hqn], dig_length_le (Nat.lt_of_le_of_lt hxg hxl)⟩
    refine T_skip ?_
    refine T_regionS ?_
    refine Run.one (ok_load_own_agg 1 rfl rfl rfl rfl rfl) rfl rfl rfl ?_
    refine Run.one (ok_call rfl rfl (rznorm_spec (by unfold cap; omega))) rfl rfl rfl ?_
    refine Run.store 1 rfl rfl rfl rfl rfl rfl rfl rfl rfl ?_
    refine Run.nil ?_
    refine T_regionS ?_
    refine Run.one (ok_fieldAddr_eq rfl rfl rfl) rfl rfl rfl ?_
    refine Run.one (ok_load_own 1 rfl rfl rfl rfl) rfl rfl rfl ?_
    refine Run.one (ok_call rfl rfl (rsmall_spec (by unfold cap; omega))) rfl rfl rfl ?_
    refine Run.one (ok_move rfl rfl) rfl rfl rfl ?_
    refine Run.one (ok_extract rfl rfl rfl) rfl rfl rfl ?_
    refine Run.one (ok_extract rfl rfl rfl) rfl rfl rfl ?_
    refine Run.one (ok_assign rfl rfl) rfl rfl rfl ?_
    refine Run.one (ok_assign rfl rfl) rfl rfl rfl ?_
    refine Run.nil ?_
    refine T_regionS ?_
    refine Run.one (ok_move rfl rfl) rfl rfl rfl ?_
    refine Run.one (ok_call rfl rfl (rsmall_spec (by unfold cap; omega))) rfl rfl rfl ?_
    refine Run.one (ok_move rfl rfl) rfl rfl rfl ?_
    refine Run.one (ok_extract rfl rfl rfl) rfl rfl rfl ?_
    refine Run.one (ok_extract rfl rfl rfl) rfl rfl rfl ?_
    refine Run.one (ok_assign rfl rfl) rfl rfl rfl ?_
    refine Run.one (ok_assign rfl rfl) rfl rfl rfl ?_
    refine Run.nil ?_
    refine T_seqQ (K := fun S1 => Ent S1 (⟨82, [(5, intS .i64 0), (4, eqS (.pointer (some ⟨b4, 0, none⟩))), (2, eqS (.pointer (some ⟨b2, 0, none⟩))), (1, natS d)], [⟨some b4, 27, [eqS (.bool false), eqS (.slice none 0 0), eqS (.slice none 0 0)], 0⟩, ⟨some b2, 25, canI z, 0⟩], [], (0, false)⟩)) ?_ ?_
    · refine T_regionS ?_
      refine Run.oneB (ok_move rfl rfl) rfl rfl rfl (fun h6_0 => ?_) (fun h6_0 => ?_)
      · refine Run.one (ok_move rfl rfl) rfl rfl rfl ?_
        refine Run.one (ok_move rfl rfl) (gB rfl rfl rfl rfl) rfl rfl ?_
        refine Run.one (ok_pick rfl rfl rfl) rfl rfl rfl ?_
        refine Run.nil ?_
        refine T_cond rfl rfl (fun h39 => ?_) (fun h39 => ?_)
        · have hx64 : x < 18446744073709551616 := by rw [hx]; exact of_decide_eq_true h6_0
          have hn64 : n < 18446744073709551616 := of_decide_eq_true h39
          refine T_regionS ?_
          refine Run.one ((ok_move rfl rfl).sub (int_eq (n := ((x : Nat) : Int)) (by rw [← hx, if_pos hx64]))) rfl rfl rfl ?_
          refine Run.one ((ok_move rfl rfl).sub (int_eq (n := ((n : Nat) : Int)) (if_pos hn64))) rfl rfl rfl ?_
          refine Run.one ((ok_call rfl rfl (rplain_spec hx64 hn64)).sub (int_eq (n := ((g : Nat) : Int)) (by rw [hg]))) rfl rfl rfl ?_
          refine Run.one (ok_assign rfl rfl) rfl rfl rfl ?_
          refine Run.nil ?_
          refine T_drawS 13 (by kernel_rfl) ?_
          refine Run.one (ok_fieldAddr_eq rfl rfl rfl) rfl rfl rfl ?_
          refine Run.one (ok_load_own 1 rfl rfl rfl rfl) rfl rfl rfl ?_
          refine Run.one ((ok_move rfl rfl).sub (int_eq (n := ((x : Nat) : Int)) (by rw [← hx, if_pos hx64]))) rfl rfl rfl ?_
          refine Run.one (ok_move rfl rfl) rfl rfl rfl ?_
          refine Run.one ((ok_quo rfl rfl rfl (by omega) (by omega) (by have := Nat.div_le_self x g; rw [← Int.natCast_ediv]; exact wrap_u64 (Int.natCast_nonneg _) (by omega))).sub (int_eq (n := ((x / g : Nat) : Int)) (Int.natCast_ediv _ _).symm)) rfl rfl rfl ?_
          refine Run.one (ok_call rfl rfl (rof_spec (by omega))) rfl rfl rfl ?_
          refine Run.one (ok_build rfl rfl rfl) rfl rfl rfl ?_
          refine Run.one (ok_call rfl rfl (rznorm_spec (by unfold cap; omega))) rfl rfl rfl ?_
          refine Run.one ((ok_move rfl rfl).sub (int_eq (n := ((n : Nat) : Int)) (if_pos hn64))) rfl rfl rfl ?_
          refine Run.one (ok_move rfl rfl) rfl rfl rfl ?_
          refine Run.one ((ok_quo rfl rfl rfl (by omega) (by omega) (by have := Nat.div_le_self n g; rw [← Int.natCast_ediv]; exact wrap_u64 (Int.natCast_nonneg _) (by omega))).sub (int_eq (n := ((n / g : Nat) : Int)) (Int.natCast_ediv _ _).symm)) rfl rfl rfl ?_
          refine Run.one (ok_call rfl rfl (rof_spec (by omega))) rfl rfl rfl ?_
          refine Run.one (ok_build rfl rfl rfl) rfl rfl rfl ?_
          refine Run.nil ?_
          refine Run.store 0 rfl rfl rfl rfl rfl rfl rfl rfl rfl ?_
          refine Run.one (ok_assign rfl rfl) rfl rfl rfl ?_
          refine Run.nil ?_
          refine T_ret ?_
          exact ⟨_, [], .many (.cons (.agg 0 inferInstance rfl rfl rfl rfl) (.cons (.tmp rfl) (.nil))), List.nil_sublist _, by rw [if_neg hn0, ← hqd]; rfl, rfl⟩
        · refine T_skip ?_
          exact ent_h (subG_cons rfl (subG_cons rfl (subG_cons rfl (subG_cons rfl (trivial))))) rfl
      · refine Run.one (ok_move rfl rfl) rfl rfl rfl ?_
        refine Run.no (gB rfl rfl rfl rfl) rfl rfl ?_
        refine Run.one (ok_pick rfl rfl rfl) rfl rfl rfl ?_
        refine Run.nil ?_
        refine T_condF rfl rfl ?_
        refine T_skip ?_
        exact ent_h (subG_cons rfl (subG_cons rfl (subG_cons rfl (subG_cons rfl (trivial))))) rfl
    · intro S1 hS1
      refine T_pre hS1 ?_
      refine T_regionS ?_
      refine Run.one (ok_fieldAddr_eq rfl rfl rfl) rfl rfl rfl ?_
      refine Run.one (ok_load_own 1 rfl rfl rfl rfl) rfl rfl rfl ?_
      refine Run.one (ok_move rfl rfl) rfl rfl rfl ?_
      refine Run.one ((ok_call rfl rfl (rgcd_spec (by omega))).sub (show ∀ I v, (natS (dig (Nat.gcd z.natAbs n))).den I v → (natS (dig g)).den I v from fun I v h => by rw [← hx, ← hg] at h; exact h)) rfl rfl rfl ?_
      have hgl : (dig g).length ≤ j := dig_length_le (Nat.lt_of_le_of_lt (by rw [hg]; exact Nat.gcd_le_right _ hnp) (by have h1 := val_lt hd.lim; rw [hd.val] at h1; exact Nat.lt_of_lt_of_le h1 (Nat.pow_le_pow_right (by decide) hlend)))
      refine Run.one (ok_assign rfl rfl) rfl rfl rfl ?_
      refine Run.nil ?_
      refine T_regionS ?_
      refine Run.one (ok_fieldAddr_eq rfl rfl rfl) rfl rfl rfl ?_
      refine Run.one (ok_load_own 1 rfl rfl rfl rfl) rfl rfl rfl ?_
      refine Run.one (ok_move rfl rfl) rfl rfl rfl ?_
      refine Run.one (ok_call rfl rfl (rdiv_spec (by unfold cap; omega) (by unfold cap; omega))) rfl rfl rfl ?_
      refine Run.one (ok_move rfl rfl) rfl rfl rfl ?_
      refine Run.one ((ok_extract rfl rfl rfl).sub (show ∀ I v, (natS (dig (z.natAbs / g))).den I v → (natS (dig (x / g))).den I v from fun I v h => by rw [← hx] at h; exact h)) rfl rfl rfl ?_
      refine Run.one (ok_extract rfl rfl rfl) rfl rfl rfl ?_
      refine Run.one (ok_extract rfl rfl rfl) rfl rfl rfl ?_
      refine Run.one (ok_assign rfl rfl) rfl rfl rfl ?_
      refine Run.one (ok_assign rfl rfl) rfl rfl rfl ?_
      refine Run.one (ok_assign rfl rfl) rfl rfl rfl ?_
      refine Run.nil ?_
      refine T_regionS ?_
      refine Run.one (ok_move rfl rfl) rfl rfl rfl ?_
      refine Run.one (ok_move rfl rfl) rfl rfl rfl ?_
      refine Run.one (ok_call rfl rfl (rdiv_spec (by unfold cap; omega) (by unfold cap; omega))) rfl rfl rfl ?_
      refine Run.one (ok_move rfl rfl) rfl rfl rfl ?_
      refine Run.one (ok_extract rfl rfl rfl) rfl rfl rfl ?_
      refine Run.one (ok_extract rfl rfl rfl) rfl rfl rfl ?_
      refine Run.one (ok_extract rfl rfl rfl) rfl rfl rfl ?_
      refine Run.one (ok_assign rfl rfl) rfl rfl rfl ?_
      refine Run.one (ok_assign rfl rfl) rfl rfl rfl ?_
      refine Run.one (ok_assign rfl rfl) rfl rfl rfl ?_
      refine Run.nil ?_
      refine T_regionS ?_
      refine Run.one (ok_fieldAddr_eq rfl rfl rfl) rfl rfl rfl ?_
      refine Run.one (ok_load_own 1 rfl rfl rfl rfl) rfl rfl rfl ?_
      refine Run.one (ok_move rfl rfl) rfl rfl rfl ?_
      refine Run.one (ok_build rfl rfl rfl) rfl rfl rfl ?_
      refine Run.one (ok_call rfl rfl (rznorm_spec (by unfold cap; omega))) rfl rfl rfl ?_
      refine Run.one (ok_move rfl rfl) rfl rfl rfl ?_
      refine Run.one (ok_build rfl rfl rfl) rfl rfl rfl ?_
      refine Run.store 0 rfl rfl rfl rfl rfl rfl rfl rfl rfl ?_
      refine Run.one (ok_assign rfl rfl) rfl rfl rfl ?_
      refine Run.nil ?_
      refine T_ret ?_
      exact ⟨_, [], .many (.cons (.agg 0 inferInstance rfl rfl rfl rfl) (.cons (.tmp rfl) (.nil))), List.nil_sublist _, by rw [if_neg hn0, ← hqd]; rfl, rfl⟩
theorem rnewq_spec {b : Bool} {l d : List Nat} {q : Rat} {k : Nat} [h : IsQ b l d q k] (hs : 64 * k + 20000 ≤ 65536 := by decide) : PSpec Tryz.prog G 26 [aggS [boolS b, natS l], natS d] (tupS [aggS (canQ q), intS .i64 (if val d = 0 then 30 else 0)]) := by
  have i1 := h.z
  have i2 : IsNat d (val d) := isNat_of h.limd
  have i3 : Sz d k := ⟨h.lend⟩
  have := rnew_spec (G := G) (b := b) (l := l) (d := d) (z := sgn b (val l)) (n := val d) (k := k) (j := k) (by omega)
  rw [h.val] at this; exact this
theorem rqNorm_spec {b : Bool} {l d : List Nat} {q : Rat} {k : Nat} [h : IsQ b l d q k] (hs : 64 * k + 20000 ≤ 65536 := by decide) : PSpec Tryz.prog G 21 [aggS [boolS b, natS l, natS d]] (aggS (canQ q)) := by
  refine fn_spec Tryz.func21 rfl rfl rfl ?_
  refine T_regionS ?_
  refine Run.one (ok_box rfl rfl) rfl rfl rfl ?_
  refine Run.alloc rfl rfl rfl rfl rfl fun b2 => ?_
  refine Run.nil ?_
  refine T_regionS ?_
  refine Run.one (ok_fieldAddr rfl rfl rfl) rfl rfl rfl ?_
  refine Run.one (ok_load_agg rfl rfl rfl rfl) rfl rfl rfl ?_
  refine Run.one (ok_fieldAddr rfl rfl rfl) rfl rfl rfl ?_
  refine Run.one (ok_load rfl rfl) rfl rfl rfl ?_
  refine Run.one (ok_call rfl rfl (rnewq_spec hs)) rfl rfl rfl ?_
  refine Run.one (ok_move rfl rfl) rfl rfl rfl ?_
  refine Run.one (ok_extract rfl rfl rfl) rfl rfl rfl ?_
  refine Run.one (ok_extract rfl rfl rfl) rfl rfl rfl ?_
  refine Run.alloc rfl rfl rfl rfl rfl fun b3 => ?_
  refine Run.store 0 rfl rfl rfl rfl rfl rfl rfl rfl rfl ?_
  refine Run.one (ok_assign rfl rfl) rfl rfl rfl ?_
  refine Run.nil ?_
  refine T_regionS ?_
  refine Run.one (ok_load_own_agg 0 rfl rfl rfl rfl rfl) rfl rfl rfl ?_
  refine Run.store 1 rfl rfl rfl rfl rfl rfl rfl rfl rfl ?_
  refine Run.nil ?_
  refine T_ret ?_
  exact ⟨_, [], .one (.agg 1 inferInstance rfl rfl rfl rfl), List.nil_sublist _, rfl, rfl⟩
theorem rqSign_spec {b : Bool} {l d : List Nat} {q : Rat} {k : Nat} [h : IsQ b l d q k] (hs : 64 * k + 20000 ≤ 65536 := by decide) : PSpec Tryz.prog G 30 [aggS [boolS b, natS l, natS d]] (intS .i64 (tri q 0)) := by
  have i1 := h.z
  have i2 : IsNat d (val d) := isNat_of h.limd
  have hlend := h.lend
  have hv := h.val
  rw [← sign_tri]
  refine fn_spec Tryz.func30 rfl rfl rfl ?_
  refine T_regionS ?_
  refine Run.one (ok_box rfl rfl) rfl rfl rfl ?_
  refine Run.one (ok_assign rfl rfl) rfl rfl rfl ?_
  refine Run.nil ?_
  refine T_seq ?_
  refine T_regionS ?_
  refine Run.one (ok_fieldAddr rfl rfl rfl) rfl rfl rfl ?_
  refine Run.one (ok_load rfl rfl) rfl rfl rfl ?_
  refine Run.one (ok_call rfl rfl (rtrim_spec (by unfold cap; omega))) rfl rfl rfl ?_
  refine Run.one (ok_len rfl rfl) rfl rfl rfl ?_
  refine Run.one (ok_cmp rfl rfl rfl rfl) rfl rfl rfl ?_
  refine Run.nil ?_
  refine T_cond rfl rfl (fun h7 => ?_) (fun h7 => ?_)
  · have k7 := beq_iff_eq.1 h7
    have hd0 : val d = 0 := dig_len_zero.1 (by omega)
    rw [hd0, Rat.mkRat_zero] at hv
    refine T_regionS ?_
    refine Run.one (ok_assign rfl rfl) rfl rfl rfl ?_
    refine Run.nil ?_
    refine T_ret ?_
    exact ⟨_, [], .one (.tmp rfl), List.nil_sublist _, by rw [← hv]; rfl, rfl⟩
  · have k7 := beq_eq_false_iff_ne.1 h7
    have hd0 : val d ≠ 0 := fun h0 => k7 (by rw [h0, dig_zero]; rfl)
    refine T_skip ?_
    refine T_regionS ?_
    refine Run.one (ok_fieldAddr rfl rfl rfl) rfl rfl rfl ?_
    refine Run.one (ok_load_agg rfl rfl rfl rfl) rfl rfl rfl ?_
    refine Run.one ((ok_call rfl rfl (rzSign_spec (by unfold cap; omega))).sub (int_eq (n := q.num.sign) (by rw [← hv, mkRat_sign hd0]))) rfl rfl rfl ?_
    refine Run.one (ok_assign rfl rfl) rfl rfl rfl ?_
    refine Run.nil ?_
    refine T_ret ?_
    exact ⟨_, [], .one (.tmp rfl), List.nil_sublist _, rfl, rfl⟩
theorem rqtold_spec {b c : Bool} {l d m e : List Nat} : PSpec Tryz.prog G 20 [aggS [boolS b, natS l, natS d], aggS [boolS c, natS m, natS e]] (boolS (decide ((b = c ∧ l = m) ∧ d = e))) := by
  refine fn_spec Tryz.func20 rfl rfl rfl ?_
  refine T_regionS ?_
  refine Run.one (ok_box rfl rfl) rfl rfl rfl ?_
  refine Run.one (ok_box rfl rfl) rfl rfl rfl ?_
  refine Run.one (ok_assign rfl rfl) rfl rfl rfl ?_
  refine Run.nil ?_
  refine T_regionS ?_
  refine Run.one (ok_fieldAddr rfl rfl rfl) rfl rfl rfl ?_
  refine Run.one (ok_load_agg rfl rfl rfl rfl) rfl rfl rfl ?_
  refine Run.one (ok_fieldAddr rfl rfl rfl) rfl rfl rfl ?_
  refine Run.one (ok_load_agg rfl rfl rfl rfl) rfl rfl rfl ?_
  refine Run.oneB (ok_call rfl rfl rtold_spec) rfl rfl rfl (fun h1_4 => ?_) (fun h1_4 => ?_)
  · refine Run.one (ok_move rfl rfl) rfl rfl rfl ?_
    refine Run.one (ok_fieldAddr rfl rfl rfl) (gB rfl rfl rfl rfl) rfl rfl ?_
    refine Run.one (ok_load rfl rfl) (gB rfl rfl rfl rfl) rfl rfl ?_
    refine Run.one (ok_fieldAddr rfl rfl rfl) (gB rfl rfl rfl rfl) rfl rfl ?_
    refine Run.one (ok_load rfl rfl) (gB rfl rfl rfl rfl) rfl rfl ?_
    refine Run.one (ok_call rfl rfl rsame_spec) (gB rfl rfl rfl rfl) rfl rfl ?_
    refine Run.one (ok_pick rfl rfl rfl) rfl rfl rfl ?_
    refine Run.one (ok_assign rfl rfl) rfl rfl rfl ?_
    refine Run.nil ?_
    refine T_ret ?_
    exact ⟨_, [], .one (.tmp rfl), List.nil_sublist _, congrArg boolS (decide_eq_decide.2 ⟨fun h => ⟨of_decide_eq_true h1_4, h⟩, fun h => h.2⟩), rfl⟩
  · refine Run.one (ok_move rfl rfl) rfl rfl rfl ?_
    refine Run.no (gB rfl rfl rfl rfl) rfl rfl ?_
    refine Run.no (gB rfl rfl rfl rfl) rfl rfl ?_
    refine Run.no (gB rfl rfl rfl rfl) rfl rfl ?_
    refine Run.no (gB rfl rfl rfl rfl) rfl rfl ?_
    refine Run.no (gB rfl rfl rfl rfl) rfl rfl ?_
    refine Run.one (ok_pick rfl rfl rfl) rfl rfl rfl ?_
    refine Run.one (ok_assign rfl rfl) rfl rfl rfl ?_
    refine Run.nil ?_
    refine T_ret ?_
    exact ⟨_, [], .one (.tmp rfl), List.nil_sublist _, congrArg boolS (decide_eq_false (fun h => of_decide_eq_false h1_4 h.1)).symm, rfl⟩
end Go.Proofs
/- Points: vec, straitref08. -/
namespace Go.Proofs
open Go Go.Sv Num
variable {G : Imm}
def dist (x y : Rat) : Rat := if x < y then y - x else x - y
instance bq_dist {p q : Rat} {k j : Nat} [hp : Bq p k] [hq : Bq q j] : Bq (dist p q) (k + j + 1) := by
  unfold dist; split
  · rw [Nat.add_comm k j]; exact bq_sub
  · exact bq_sub
theorem tri_eq {p q : Rat} : tri p q = 0 ↔ p = q := by
  have := tri_zero (p := p) (q := q)
  by_cases h : p = q
  · rw [decide_eq_true h] at this; exact ⟨fun _ => h, fun _ => beq_iff_eq.1 this⟩
  · rw [decide_eq_false h] at this; exact ⟨fun h1 => absurd h1 (beq_eq_false_iff_ne.1 this), fun h1 => absurd h1 h⟩
theorem canQ_inj {p q : Rat} : ((decide (p.num < 0) = decide (q.num < 0) ∧ dig p.num.natAbs = dig q.num.natAbs) ∧ dig p.den = dig q.den) ↔ p = q := by
  constructor
  · rintro ⟨⟨h1, h2⟩, h3⟩
    refine Rat.ext ?_ (dig_inj.1 h3)
    have h2 := dig_inj.1 h2
    rw [← sgn_self p.num, ← sgn_self q.num, h1, h2]
  · rintro rfl; exact ⟨⟨rfl, rfl⟩, rfl⟩
theorem toldq_spec {p q : Rat} : PSpec Tryz.prog G 20 [aggS (canQ p), aggS (canQ q)] (boolS (decide (p = q))) := by
  have h := rqtold_spec (G := G) (b := decide (p.num < 0)) (c := decide (q.num < 0)) (l := dig p.num.natAbs) (d := dig p.den) (m := dig q.num.natAbs) (e := dig q.den)
  rw [show decide ((decide (p.num < 0) = decide (q.num < 0) ∧ dig p.num.natAbs = dig q.num.natAbs) ∧ dig p.den = dig q.den) = decide (p = q) from decide_eq_decide.2 canQ_inj] at h
  exact h
theorem isQ_lim {b : Bool} {l d : List Nat} {k : Nat} (h : Lim l ∧ Lim d ∧ l.length ≤ k ∧ d.length ≤ k) (hk : 0 < k) : IsQ b l d (qv (b, l, d)) k := ⟨h.1, h.2.1, rfl, h.2.2.1, h.2.2.2, hk⟩
end Go.Proofs
