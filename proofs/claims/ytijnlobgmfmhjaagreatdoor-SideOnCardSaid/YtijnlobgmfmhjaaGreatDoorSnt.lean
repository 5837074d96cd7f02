/- Integers: straitref05. -/
import Derived.Test.YtijnlobgmfmhjaaGreatDoorSns
namespace Go.Proofs
open Go Go.Sv Num
variable {G : Imm}
theorem ghost_nilI {E : Env} {r : Option Nat} {n : Nat} {g : List (Nat × SV)} {b : Option Nat} {e k : Nat} {h : HL} {d : List Nat} {i : Nat × Bool} : Ghost G E r ⟨n, g, ⟨b, e, [eqS (.bool false), eqS (.slice none 0 0)], k⟩ :: h, d, i⟩ ⟨n, g, ⟨b, e, canI 0, k⟩ :: h, d, i⟩ :=
  ghost_heap ⟨rfl, rfl, rfl, rfl, fun I xs hd => by
    rw [← nilI]
    exact subL.dens (l := [eqS (.bool false), eqS (.slice none 0 0)]) (m := [boolS false, natS []]) ⟨fun _ _ h => h, nil_nat rfl, trivial⟩ hd, subH_refl h⟩
theorem rznorm_spec {b : Bool} {l : List Nat} {z : Int} {k : Nat} [h : IsZ b l z k] (hs : k ≤ cap := by decide) : PSpec Tryz.prog G 51 [aggS [boolS b, natS l]] (aggS (canI z)) := by
  have hn := h.nat
  have hlen := h.len
  have hcan := h.can
  refine fn_spec Tryz.func51 rfl rfl rfl ?_
  refine T_regionS ?_
  refine Run.one (ok_box rfl rfl) rfl rfl rfl ?_
  refine Run.alloc rfl rfl rfl rfl rfl fun b2 => ?_
  refine Run.nil ?_
  refine T_regionS ?_
  refine Run.one (ok_fieldAddr rfl rfl rfl) rfl rfl rfl ?_
  refine Run.one (ok_load rfl rfl) rfl rfl rfl ?_
  refine Run.one (ok_call rfl rfl (rtrim_spec (by omega))) rfl rfl rfl ?_
  refine Run.one (ok_assign rfl rfl) rfl rfl rfl ?_
  refine Run.nil ?_
  refine T_regionS ?_
  refine Run.one (ok_fieldAddr rfl rfl rfl) rfl rfl rfl ?_
  refine Run.oneB (ok_load rfl rfl) rfl rfl rfl (fun h2_1 => ?_) (fun h2_1 => ?_)
  · refine Run.one (ok_move rfl rfl) rfl rfl rfl ?_
    refine Run.one (ok_move rfl rfl) ⟨_, _, rfl, rfl, rfl⟩ rfl rfl ?_
    refine Run.one (ok_len rfl rfl) ⟨_, _, rfl, rfl, rfl⟩ rfl rfl ?_
    refine Run.one (ok_cmp rfl rfl rfl rfl) ⟨_, _, rfl, rfl, rfl⟩ rfl rfl ?_
    refine Run.one (ok_pick rfl rfl rfl) rfl rfl rfl ?_
    refine Run.one (ok_move rfl rfl) rfl rfl rfl ?_
    refine Run.one (ok_build rfl rfl rfl) rfl rfl rfl ?_
    refine Run.store 0 rfl rfl rfl rfl rfl rfl rfl rfl rfl ?_
    refine Run.nil ?_
    refine T_ret ?_
    exact ⟨_, [], .one (.agg 0 inferInstance rfl rfl rfl rfl), List.nil_sublist _, by rw [hcan, h2_1, Bool.true_and]; exact congrArg (fun x : Bool => aggS [boolS x, natS (dig z.natAbs)]) (decide_eq_decide.2 (by have := dig_len_zero (n := z.natAbs); omega)), rfl⟩
  · refine Run.one (ok_move rfl rfl) rfl rfl rfl ?_
    refine Run.no ⟨_, _, rfl, rfl, rfl⟩ rfl rfl ?_
    refine Run.no ⟨_, _, rfl, rfl, rfl⟩ rfl rfl ?_
    refine Run.no ⟨_, _, rfl, rfl, rfl⟩ rfl rfl ?_
    refine Run.one (ok_pick rfl rfl rfl) rfl rfl rfl ?_
    refine Run.one (ok_move rfl rfl) rfl rfl rfl ?_
    refine Run.one (ok_build rfl rfl rfl) rfl rfl rfl ?_
    refine Run.store 0 rfl rfl rfl rfl rfl rfl rfl rfl rfl ?_
    refine Run.nil ?_
    refine T_ret ?_
    exact ⟨_, [], .one (.agg 0 inferInstance rfl rfl rfl rfl), List.nil_sublist _, by rw [hcan, h2_1]; rfl, rfl⟩
theorem rzSign_spec {b : Bool} {l : List Nat} {z : Int} {k : Nat} [h : IsZ b l z k] (hs : k ≤ cap := by decide) : PSpec Tryz.prog G 33 [aggS [boolS b, natS l]] (intS .i64 z.sign) := by
  have hz := dig_len_zero (n := z.natAbs)
  refine fn_spec Tryz.func33 rfl rfl rfl ?_
  refine T_regionS ?_
  refine Run.box rfl rfl rfl rfl rfl rfl fun b1 => ?_
  refine Run.one (ok_assign rfl rfl) rfl rfl rfl ?_
  refine Run.nil ?_
  refine T_regionS ?_
  refine Run.one (ok_load_own_agg 0 rfl rfl rfl rfl rfl) rfl rfl rfl ?_
  refine Run.one (ok_call rfl rfl (rznorm_spec hs)) rfl rfl rfl ?_
  refine Run.store 0 rfl rfl rfl rfl rfl rfl rfl rfl rfl ?_
  refine Run.nil ?_
  refine T_seq ?_
  refine T_block ?_
  refine T_regionS ?_
  refine Run.one (ok_fieldAddr_eq rfl rfl rfl) rfl rfl rfl ?_
  refine Run.one (ok_load_own 0 rfl rfl rfl rfl) rfl rfl rfl ?_
  refine Run.one (ok_len rfl rfl) rfl rfl rfl ?_
  refine Run.one (ok_cmp rfl rfl rfl rfl) rfl rfl rfl ?_
  refine Run.one (ok_assign rfl rfl) rfl rfl rfl ?_
  refine Run.nil ?_
  refine T_cond rfl rfl (fun h5 => ?_) (fun h5 => ?_)
  · have k5 := beq_iff_eq.1 h5
    have hz0 : z = 0 := by omega
    refine T_regionS ?_
    refine Run.one (ok_assign rfl rfl) rfl rfl rfl ?_
    refine Run.nil ?_
    refine T_ret ?_
    exact ⟨_, [], .one (.tmp rfl), List.nil_sublist _, by rw [hz0]; rfl, rfl⟩
  · have k5 := beq_eq_false_iff_ne.1 h5
    have hz0 : z ≠ 0 := fun h => k5 (by rw [h]; exact congrArg (fun x : Nat => (x : Int)) (dig_len_zero.2 rfl))
    refine T_regionS ?_
    refine Run.one (ok_fieldAddr_eq rfl rfl rfl) rfl rfl rfl ?_
    refine Run.one (ok_load_own 0 rfl rfl rfl rfl) rfl rfl rfl ?_
    refine Run.one (ok_assign rfl rfl) rfl rfl rfl ?_
    refine Run.nil ?_
    refine T_cond rfl rfl (fun h10 => ?_) (fun h10 => ?_)
    · refine T_regionS ?_
      refine Run.one (ok_assign rfl rfl) rfl rfl rfl ?_
      refine Run.nil ?_
      refine T_ret ?_
      exact ⟨_, [], .one (.tmp rfl), List.nil_sublist _, by rw [Int.sign_eq_neg_one_of_neg (of_decide_eq_true h10)], rfl⟩
    · refine T_skip ?_
      refine T_regionS ?_
      refine Run.one (ok_assign rfl rfl) rfl rfl rfl ?_
      refine Run.nil ?_
      refine T_ret ?_
      exact ⟨_, [], .one (.tmp rfl), List.nil_sublist _, by rw [Int.sign_eq_one_of_pos (by have := of_decide_eq_false h10; omega)], rfl⟩
theorem rzOf_spec {n : Int} (h1 : -9223372036854775808 ≤ n) (h2 : n ≤ 9223372036854775807) : PSpec Tryz.prog G 37 [intS .i64 n] (aggS (canI n)) := by
  refine fn_spec Tryz.func37 rfl rfl rfl ?_
  refine T_regionS ?_
  refine Run.alloc rfl rfl rfl rfl rfl fun b2 => ?_
  refine Run.nil ?_
  refine T_seq ?_
  refine T_regionS ?_
  refine Run.one (ok_move rfl rfl) rfl rfl rfl ?_
  refine Run.one (ok_cmp rfl rfl rfl rfl) rfl rfl rfl ?_
  refine Run.nil ?_
  refine T_cond rfl rfl (fun h4 => ?_) (fun h4 => ?_)
  · have k4 := of_decide_eq_true h4
    refine T_regionS ?_
    refine Run.one (ok_move rfl rfl) rfl rfl rfl ?_
    refine Run.one (ok_ari (z := n + 1) rfl rfl rfl (congrArg some (by omega)) (wrap_i64 (by omega) (by omega))) rfl rfl rfl ?_
    refine Run.one ((ok_neg rfl rfl).sub (int_eq (n := -(n + 1)) ((wrap_i64 (by omega) (by omega)).trans (by omega)))) rfl rfl rfl ?_
    refine Run.one (ok_conv (z := -(n + 1)) rfl rfl (wrap_u64 (by omega) (by omega))) rfl rfl rfl ?_
    refine Run.one (ok_ari (z := ((n.natAbs : Nat) : Int)) rfl rfl rfl (congrArg some (by omega)) (wrap_u64 (by omega) (by omega))) rfl rfl rfl ?_
    refine Run.one (ok_call rfl rfl (rof_spec (by omega))) rfl rfl rfl ?_
    refine Run.one (ok_build rfl rfl rfl) rfl rfl rfl ?_
    refine Run.store 0 rfl rfl rfl rfl rfl rfl rfl rfl rfl ?_
    refine Run.nil ?_
    refine T_ret ?_
    exact ⟨_, [], .one (.agg 0 inferInstance rfl rfl rfl rfl), List.nil_sublist _, by rw [show canI n = [boolS true, natS (dig n.natAbs)] by show [boolS (decide (n < 0)), _] = _; rw [decide_eq_true (by omega)]]; rfl, rfl⟩
  · have k4 := of_decide_eq_false h4
    refine T_skip ?_
    refine T_regionS ?_
    refine Run.one (ok_move rfl rfl) rfl rfl rfl ?_
    refine Run.one (ok_conv (z := ((n.natAbs : Nat) : Int)) rfl rfl (by rw [wrap_u64_mod]; omega)) rfl rfl rfl ?_
    refine Run.one (ok_call rfl rfl (rof_spec (by omega))) rfl rfl rfl ?_
    refine Run.one (ok_build rfl rfl rfl) rfl rfl rfl ?_
    refine Run.store 0 rfl rfl rfl rfl rfl rfl rfl rfl rfl ?_
    refine Run.nil ?_
    refine T_ret ?_
    exact ⟨_, [], .one (.agg 0 inferInstance rfl rfl rfl rfl), List.nil_sublist _, by rw [show canI n = [boolS false, natS (dig n.natAbs)] by show [boolS (decide (n < 0)), _] = _; rw [decide_eq_false (by omega)]]; rfl, rfl⟩
theorem rzneg_spec {b : Bool} {l : List Nat} {z : Int} {k : Nat} [h : IsZ b l z k] (hs : k ≤ cap := by decide) : PSpec Tryz.prog G 52 [aggS [boolS b, natS l]] (aggS (canI (-z))) := by
  refine fn_spec Tryz.func52 rfl rfl rfl ?_
  refine T_regionS ?_
  refine Run.one (ok_box rfl rfl) rfl rfl rfl ?_
  refine Run.alloc rfl rfl rfl rfl rfl fun b2 => ?_
  refine Run.nil ?_
  refine T_regionS ?_
  refine Run.one (ok_fieldAddr rfl rfl rfl) rfl rfl rfl ?_
  refine Run.one (ok_load rfl rfl) rfl rfl rfl ?_
  refine Run.one (ok_not rfl rfl) rfl rfl rfl ?_
  refine Run.one (ok_fieldAddr rfl rfl rfl) rfl rfl rfl ?_
  refine Run.one (ok_load rfl rfl) rfl rfl rfl ?_
  refine Run.one (ok_build rfl rfl rfl) rfl rfl rfl ?_
  refine Run.one (ok_call rfl rfl (rznorm_spec hs)) rfl rfl rfl ?_
  refine Run.store 0 rfl rfl rfl rfl rfl rfl rfl rfl rfl ?_
  refine Run.nil ?_
  refine T_ret ?_
  exact ⟨_, [], .one (.agg 0 inferInstance rfl rfl rfl rfl), List.nil_sublist _, rfl, rfl⟩
theorem rztwo_spec {b c : Bool} {l m : List Nat} {x y : Int} {k j : Nat} [hx : IsZ b l x k] [hy : IsZ c m y j] (hs : k + j + 100 ≤ cap := by decide) : PSpec Tryz.prog G 69 [aggS [boolS b, natS l], aggS [boolS c, natS m]] (aggS (canI (x + y))) := by
  unfold cap at hs
  have hxn := hx.nat
  have hyn := hy.nat
  have hxl := hx.len
  have hyl := hy.len
  have i1 : Sz l k := ⟨hxl⟩
  have i2 : Sz m j := ⟨hyl⟩
  have hxb := hx.bz
  have hyb := hy.bz
  have hxe : sgn b x.natAbs = x := by have h1 := hx.val; rwa [hxn.val] at h1
  have hye : sgn c y.natAbs = y := by have h1 := hy.val; rwa [hyn.val] at h1
  have hd1 : (dig (x.natAbs + y.natAbs)).length ≤ k + j + 1 := dig_length_le (bd_sum hxb.h hyb.h)
  have hd2 : (dig (x.natAbs - y.natAbs)).length ≤ k := dig_length_le (Nat.lt_of_le_of_lt (Nat.sub_le _ _) hxb.h)
  have hd3 : (dig (y.natAbs - x.natAbs)).length ≤ j := dig_length_le (Nat.lt_of_le_of_lt (Nat.sub_le _ _) hyb.h)
  unfold sgn at hxe hye
  refine fn_spec Tryz.func69 rfl rfl rfl ?_
  refine T_regionS ?_
  refine Run.one (ok_box rfl rfl) rfl rfl rfl ?_
  refine Run.one (ok_box rfl rfl) rfl rfl rfl ?_
  refine Run.alloc rfl rfl rfl rfl rfl fun b4 => ?_
  refine Run.nil ?_
  refine T_seq ?_
  refine T_regionS ?_
  refine Run.one (ok_fieldAddr rfl rfl rfl) rfl rfl rfl ?_
  refine Run.one (ok_load rfl rfl) rfl rfl rfl ?_
  refine Run.one (ok_fieldAddr rfl rfl rfl) rfl rfl rfl ?_
  refine Run.one (ok_load rfl rfl) rfl rfl rfl ?_
  refine Run.one (ok_eql_bool rfl rfl rfl Tryz.isBool4) rfl rfl rfl ?_
  refine Run.nil ?_
  refine T_cond rfl rfl (fun h11 => ?_) (fun h11 => ?_)
  · have hbc : b = c := beq_iff_eq.1 h11
    have i3 : IsZ b (dig (x.natAbs + y.natAbs)) (x + y) (k + j + 1) := ⟨lim_dig _, by rw [val_dig]; unfold sgn; rw [← hbc] at hye; split at hxe <;> simp_all <;> omega, hd1⟩
    refine T_drawS 10 (by kernel_rfl) ?_
    refine Run.one (ok_fieldAddr rfl rfl rfl) rfl rfl rfl ?_
    refine Run.one (ok_load rfl rfl) rfl rfl rfl ?_
    refine Run.one (ok_fieldAddr rfl rfl rfl) rfl rfl rfl ?_
    refine Run.one (ok_load rfl rfl) rfl rfl rfl ?_
    refine Run.one (ok_fieldAddr rfl rfl rfl) rfl rfl rfl ?_
    refine Run.one (ok_load rfl rfl) rfl rfl rfl ?_
    refine Run.one (ok_buildSlice rfl rfl (by decide) rfl (by simp) rfl rfl) rfl rfl rfl ?_
    refine Run.one (ok_call rfl rfl (radd2_spec (by unfold cap; omega))) rfl rfl rfl ?_
    refine Run.one (ok_build rfl rfl rfl) rfl rfl rfl ?_
    refine Run.one (ok_call rfl rfl (rznorm_spec (by unfold cap; omega))) rfl rfl rfl ?_
    refine Run.nil ?_
    refine Run.store 0 rfl rfl rfl rfl rfl rfl rfl rfl rfl ?_
    refine Run.nil ?_
    refine T_ret ?_
    exact ⟨_, [], .one (.agg 0 inferInstance rfl rfl rfl rfl), List.nil_sublist _, rfl, rfl⟩
  · have hbc : b ≠ c := beq_eq_false_iff_ne.1 h11
    refine T_skip ?_
    refine T_regionS ?_
    refine Run.one (ok_fieldAddr rfl rfl rfl) rfl rfl rfl ?_
    refine Run.one (ok_load rfl rfl) rfl rfl rfl ?_
    refine Run.one (ok_fieldAddr rfl rfl rfl) rfl rfl rfl ?_
    refine Run.one (ok_load rfl rfl) rfl rfl rfl ?_
    refine Run.one (ok_call rfl rfl (rsub_spec (by unfold cap; omega))) rfl rfl rfl ?_
    refine Run.one (ok_move rfl rfl) rfl rfl rfl ?_
    refine Run.one (ok_extract rfl rfl rfl) rfl rfl rfl ?_
    refine Run.one (ok_extract rfl rfl rfl) rfl rfl rfl ?_
    refine Run.one (ok_assign rfl rfl) rfl rfl rfl ?_
    refine Run.one (ok_assign rfl rfl) rfl rfl rfl ?_
    refine Run.nil ?_
    refine T_seq ?_
    refine T_regionS ?_
    refine Run.one (ok_move rfl rfl) rfl rfl rfl ?_
    refine Run.one (ok_cmp rfl rfl rfl rfl) rfl rfl rfl ?_
    refine Run.nil ?_
    refine T_cond rfl rfl (fun h31 => ?_) (fun h31 => ?_)
    · have k31 := beq_iff_eq.1 h31
      have hlt : y.natAbs ≤ x.natAbs := by rcases Nat.lt_or_ge x.natAbs y.natAbs with h | h; rw [if_pos h] at k31; cases k31; exact h
      have i3 : IsZ b (dig (x.natAbs - y.natAbs)) (x + y) k := ⟨lim_dig _, by rw [val_dig]; unfold sgn; cases b <;> cases c <;> simp_all <;> omega, hd2⟩
      refine T_regionS ?_
      refine Run.one (ok_fieldAddr rfl rfl rfl) rfl rfl rfl ?_
      refine Run.one (ok_load rfl rfl) rfl rfl rfl ?_
      refine Run.one (ok_move rfl rfl) rfl rfl rfl ?_
      refine Run.one (ok_build rfl rfl rfl) rfl rfl rfl ?_
      refine Run.one (ok_call rfl rfl (rznorm_spec (by unfold cap; omega))) rfl rfl rfl ?_
      refine Run.store 0 rfl rfl rfl rfl rfl rfl rfl rfl rfl ?_
      refine Run.nil ?_
      refine T_ret ?_
      exact ⟨_, [], .one (.agg 0 inferInstance rfl rfl rfl rfl), List.nil_sublist _, rfl, rfl⟩
    · have k31 := beq_eq_false_iff_ne.1 h31
      have hlt : x.natAbs < y.natAbs := by rcases Nat.lt_or_ge x.natAbs y.natAbs with h | h; exact h; rw [if_neg (by omega)] at k31; exact absurd rfl k31
      have i3 : IsZ c (dig (y.natAbs - x.natAbs)) (x + y) j := ⟨lim_dig _, by rw [val_dig]; unfold sgn; cases b <;> cases c <;> simp_all <;> omega, hd3⟩
      refine T_skip ?_
      refine T_regionS ?_
      refine Run.one (ok_fieldAddr rfl rfl rfl) rfl rfl rfl ?_
      refine Run.one (ok_load rfl rfl) rfl rfl rfl ?_
      refine Run.one (ok_fieldAddr rfl rfl rfl) rfl rfl rfl ?_
      refine Run.one (ok_load rfl rfl) rfl rfl rfl ?_
      refine Run.one (ok_call rfl rfl (rsub_spec (by unfold cap; omega))) rfl rfl rfl ?_
      refine Run.one (ok_move rfl rfl) rfl rfl rfl ?_
      refine Run.one (ok_extract rfl rfl rfl) rfl rfl rfl ?_
      refine Run.one (ok_extract rfl rfl rfl) rfl rfl rfl ?_
      refine Run.one (ok_assign rfl rfl) rfl rfl rfl ?_
      refine Run.nil ?_
      refine T_regionS ?_
      refine Run.one (ok_fieldAddr rfl rfl rfl) rfl rfl rfl ?_
      refine Run.one (ok_load rfl rfl) rfl rfl rfl ?_
      refine Run.one (ok_move rfl rfl) rfl rfl rfl ?_
      refine Run.one (ok_build rfl rfl rfl) rfl rfl rfl ?_
      refine Run.one (ok_call rfl rfl (rznorm_spec (by unfold cap; omega))) rfl rfl rfl ?_
      refine Run.store 0 rfl rfl rfl rfl rfl rfl rfl rfl rfl ?_
      refine Run.nil ?_
      refine T_ret ?_
      exact ⟨_, [], .one (.agg 0 inferInstance rfl rfl rfl rfl), List.nil_sublist _, rfl, rfl⟩
theorem rzadd_spec {xs : List (Bool × List Nat)} (hl : ∀ p ∈ xs, Lim p.2) (hs : szs xs xs.length + 1000 ≤ cap) : PSpec Tryz.prog G 47 [slS 2 zc xs] (aggS (canI (xs.foldl (fun z p => z + zv p) 0))) := by
  unfold cap at hs
  have hps : ∀ p ∈ xs, p.2.length ≤ cap := fun p hp => by
    obtain ⟨i, hi⟩ := List.getElem?_of_mem hp
    have h1 := szs_succ hi
    have h2 := szs_le xs (i + 1)
    unfold cap; omega
  refine fn_spec Tryz.func47 rfl rfl rfl ?_
  refine T_regionS ?_
  refine Run.alloc rfl rfl rfl rfl rfl fun b2 => ?_
  refine Run.nil ?_
  refine T_regionS ?_
  refine Run.alloc rfl rfl rfl rfl rfl fun b3 => ?_
  refine Run.nil ?_
  refine T_seq ?_
  refine T_regionS ?_
  refine Run.ghost _ rfl ghost_nilI ?_
  refine Run.one (ok_assign rfl rfl) rfl rfl rfl ?_
  refine Run.nil ?_
  refine T_block ?_
  refine T_len 0 rfl fun la => ?_
  unfold big at la
  refine T_loop2 (fun (i : Nat) (acc : Int) => ⟨_, [(4, intS .i64 (i : Nat)), (3, eqS (.pointer (some ⟨b3, 0, none⟩))), (2, eqS (.pointer (some ⟨b2, 0, none⟩))), (0, slS 2 zc xs)], [⟨some b3, 25, canI acc, 0⟩, ⟨some b2, 25, [eqS (.bool false), eqS (.slice none 0 0)], 0⟩], [], (0, false)⟩)
      (fun i acc => i ≤ xs.length ∧ acc = (xs.take i).foldl (fun z p => z + zv p) 0 ∧ Bz acc (szs xs i + 1)) (fun i acc => xs.length - i)
      0 0 ⟨Nat.zero_le _, rfl, bz_le (l := szs xs 0 + 1) (show Bz 0 1 from bz_le (l := 1) inferInstance (by decide)) (by omega)⟩ (ent_h (subG_cons rfl (subG_cons rfl (subG_cons rfl (subG_cons rfl (trivial))))) rfl) ?_
  rintro i acc ⟨hi, hacc, hbz⟩
  refine T_seq ?_
  refine T_regionS ?_
  refine Run.one (ok_move rfl rfl) rfl rfl rfl ?_
  refine Run.one (ok_move rfl rfl) rfl rfl rfl ?_
  refine Run.one (ok_len rfl rfl) rfl rfl rfl ?_
  refine Run.one (ok_cmp rfl rfl rfl rfl) rfl rfl rfl ?_
  refine Run.nil ?_
  refine T_cond rfl rfl (fun h8 => ?_) (fun h8 => ?_)
  · have k8 := of_decide_eq_true h8
    obtain ⟨⟨b, m⟩, hp⟩ : ∃ p, xs[i]? = some p := ⟨_, List.getElem?_eq_getElem (by omega)⟩
    have hpm : (b, m) ∈ xs := List.mem_of_getElem? hp
    have i1 : IsZ b m (zv (b, m)) m.length := isZ_of (hl _ hpm)
    have i2 := i1.bz
    have hsl := hps _ hpm
    have hs1 := szs_succ hp
    have hs2 := szs_le xs (i + 1)
    simp only at hs1 hsl
    refine T_skip ?_
    refine T_seq ?_
    refine T_block ?_
    refine T_draw 7 (by kernel_rfl) ?_
    refine Run.one (ok_load_own_agg 0 rfl rfl rfl rfl rfl) rfl rfl rfl ?_
    refine Run.one (ok_move rfl rfl) rfl rfl rfl ?_
    refine Run.one (ok_move rfl rfl) rfl rfl rfl ?_
    refine Run.one (ok_indexAddr rfl rfl rfl (by omega) (y := (b, m)) (hp)) rfl rfl rfl ?_
    refine Run.one ((show OpOK _ _ _ _ _ (aggS [boolS b, natS m]) from ok_load_agg rfl rfl rfl rfl)) rfl rfl rfl ?_
    refine Run.one (ok_call rfl rfl (rznorm_spec hsl)) rfl rfl rfl ?_
    refine Run.one (ok_call rfl rfl (rztwo_spec (by unfold cap; omega))) rfl rfl rfl ?_
    refine Run.nil ?_
    refine Run.store 0 rfl rfl rfl rfl rfl rfl rfl rfl rfl ?_
    refine Run.nil ?_
    refine T_region ?_
    refine Run.one (ok_move rfl rfl) rfl rfl rfl ?_
    refine Run.one (ok_ari rfl rfl rfl rfl (wrap_i64 (by omega) (by omega))) rfl rfl rfl ?_
    refine Run.one (ok_assign rfl rfl) rfl rfl rfl ?_
    refine Run.nil ?_
    exact ⟨i + 1, acc + zv (b, m), ⟨by omega, by rw [hacc, foldl_take (fun z p => z + zv p) 0 hp], bz_le (bz_add (h := hbz) (h' := i2)) (by omega)⟩, by omega, ent_h (subG_cons rfl (subG_cons rfl (subG_cons rfl (subG_cons rfl (trivial))))) rfl⟩
  · have k8 := of_decide_eq_false h8
    have hie : i = xs.length := by omega
    rw [hie, List.take_length] at hacc
    rw [hie] at hbz
    refine T_exit ?_
    refine T_regionS ?_
    refine Run.one (ok_load_own_agg 0 rfl rfl rfl rfl rfl) rfl rfl rfl ?_
    refine Run.one (ok_call rfl rfl (rznorm_spec (by unfold cap; omega))) rfl rfl rfl ?_
    refine Run.store 1 rfl rfl rfl rfl rfl rfl rfl rfl rfl ?_
    refine Run.nil ?_
    refine T_ret ?_
    exact ⟨_, [], .one (.agg 1 inferInstance rfl rfl rfl rfl), List.nil_sublist _, by rw [hacc]; rfl, rfl⟩
theorem rzadd2_spec {b c : Bool} {l m : List Nat} {x y : Int} {k j : Nat} [hx : IsZ b l x k] [hy : IsZ c m y j] (hs : k + j + 1100 ≤ cap := by decide) : PSpec Tryz.prog G 47 [slS 2 id [[boolS b, natS l], [boolS c, natS m]]] (aggS (canI (x + y))) := by
  have h := rzadd_spec (G := G) (xs := [(b, l), (c, m)]) (by intro p hp; rcases List.mem_cons.1 hp with rfl | hp; exact hx.lim; rw [List.mem_singleton.1 hp]; exact hy.lim) (by have := hx.len; have := hy.len; simp only [szs, List.length_cons, List.length_nil, List.take, List.map, List.sum_cons, List.sum_nil]; omega)
  have e : [(b, l), (c, m)].foldl (fun z p => z + zv p) 0 = x + y := by show 0 + sgn b (val l) + sgn c (val m) = _; rw [hx.val, hy.val, Int.zero_add]
  rw [e] at h
  exact h.args ⟨fun I v hv => sl_pair [(b, l), (c, m)] hv, trivial⟩
theorem rzsub_spec {b c : Bool} {l m : List Nat} {x y : Int} {k j : Nat} [hx : IsZ b l x k] [hy : IsZ c m y j] (hs : k + j + 1100 ≤ cap := by decide) : PSpec Tryz.prog G 34 [aggS [boolS b, natS l], aggS [boolS c, natS m]] (aggS (canI (x - y))) := by
  have i1 := hx.bz
  have i2 := hy.bz
  refine fn_spec Tryz.func34 rfl rfl rfl ?_
  refine T_regionS ?_
  refine Run.one (ok_box rfl rfl) rfl rfl rfl ?_
  refine Run.one (ok_box rfl rfl) rfl rfl rfl ?_
  refine Run.alloc rfl rfl rfl rfl rfl fun b4 => ?_
  refine Run.nil ?_
  refine T_drawS 5 (by kernel_rfl) ?_
  refine Run.one (ok_load_agg rfl rfl rfl rfl) rfl rfl rfl ?_
  refine Run.one (ok_load_agg rfl rfl rfl rfl) rfl rfl rfl ?_
  refine Run.one (ok_call rfl rfl (rzneg_spec (by omega))) rfl rfl rfl ?_
  refine Run.one (ok_buildSlice rfl rfl (by decide) rfl (by simp) rfl rfl) rfl rfl rfl ?_
  refine Run.one ((ok_call rfl rfl (rzadd2_spec hs)).sub (show ∀ I v, (aggS (canI (x + -y))).den I v → (aggS (canI (x - y))).den I v from fun I v h => by rw [Int.sub_eq_add_neg]; exact h)) rfl rfl rfl ?_
  refine Run.nil ?_
  refine Run.store 0 rfl rfl rfl rfl rfl rfl rfl rfl rfl ?_
  refine Run.nil ?_
  refine T_ret ?_
  exact ⟨_, [], .one (.agg 0 inferInstance rfl rfl rfl rfl), List.nil_sublist _, rfl, rfl⟩
theorem rzmul_spec {xs : List (Bool × List Nat)} (hl : ∀ p ∈ xs, Lim p.2) (hs : 20 * szs xs xs.length + 1000 ≤ cap) : PSpec Tryz.prog G 35 [slS 2 zc xs] (aggS (canI (xs.foldl (fun z p => z * zv p) 1))) := by
  unfold cap at hs
  have hps : ∀ p ∈ xs, p.2.length ≤ cap := fun p hp => by
    obtain ⟨i, hi⟩ := List.getElem?_of_mem hp
    have h1 := szs_succ hi
    have h2 := szs_le xs (i + 1)
    unfold cap; omega
  refine fn_spec Tryz.func35 rfl rfl rfl ?_
  refine T_regionS ?_
  refine Run.alloc rfl rfl rfl rfl rfl fun b2 => ?_
  refine Run.nil ?_
  refine T_regionS ?_
  refine Run.one (ok_call rfl rfl (rzOf_spec (n := 1) (by decide) (by decide))) rfl rfl rfl ?_
  refine Run.alloc rfl rfl rfl rfl rfl fun b3 => ?_
  refine Run.store 0 rfl rfl rfl rfl rfl rfl rfl rfl rfl ?_
  refine Run.nil ?_
  refine T_seq ?_
  refine T_regionS ?_
  refine Run.one (ok_assign rfl rfl) rfl rfl rfl ?_
  refine Run.nil ?_
  refine T_block ?_
  refine T_len 0 rfl fun la => ?_
  unfold big at la
  refine T_loop2 (fun (i : Nat) (acc : Int) => ⟨_, [(4, intS .i64 (i : Nat)), (3, eqS (.pointer (some ⟨b3, 0, none⟩))), (2, eqS (.pointer (some ⟨b2, 0, none⟩))), (0, slS 2 zc xs)], [⟨some b3, 25, canI acc, 0⟩, ⟨some b2, 25, [eqS (.bool false), eqS (.slice none 0 0)], 0⟩], [], (0, false)⟩)
      (fun i acc => i ≤ xs.length ∧ acc = (xs.take i).foldl (fun z p => z * zv p) 1 ∧ Bz acc (szs xs i + 1)) (fun i acc => xs.length - i)
      0 1 ⟨Nat.zero_le _, rfl, bz_le (l := szs xs 0 + 1) (show Bz 1 1 from bz_le (l := 1) inferInstance (by decide)) (by omega)⟩ (ent_h (subG_cons rfl (subG_cons rfl (subG_cons rfl (subG_cons rfl (trivial))))) rfl) ?_
  rintro i acc ⟨hi, hacc, hbz⟩
  refine T_seq ?_
  refine T_regionS ?_
  refine Run.one (ok_move rfl rfl) rfl rfl rfl ?_
  refine Run.one (ok_move rfl rfl) rfl rfl rfl ?_
  refine Run.one (ok_len rfl rfl) rfl rfl rfl ?_
  refine Run.one (ok_cmp rfl rfl rfl rfl) rfl rfl rfl ?_
  refine Run.nil ?_
  refine T_cond rfl rfl (fun h9 => ?_) (fun h9 => ?_)
  · have k9 := of_decide_eq_true h9
    obtain ⟨⟨b, m⟩, hp⟩ : ∃ p, xs[i]? = some p := ⟨_, List.getElem?_eq_getElem (by omega)⟩
    have hpm : (b, m) ∈ xs := List.mem_of_getElem? hp
    have i1 : IsZ b m (zv (b, m)) m.length := isZ_of (hl _ hpm)
    have i2 := i1.bz
    have hsl := hps _ hpm
    have hs1 := szs_succ hp
    have hs2 := szs_le xs (i + 1)
    simp only at hs1 hsl
    have i5 := i1.nat
    have hln := hbz.len
    have hx : sgn b (zv (b, m)).natAbs = zv (b, m) := by show _ = sgn b (val m); rw [i5.val.symm]
    have i3 : IsZ (!(decide (acc < 0) == b)) (dig (acc.natAbs * (zv (b, m)).natAbs)) (acc * zv (b, m)) (szs xs i + 1 + m.length) := ⟨lim_dig _, by rw [val_dig]; exact (sgn_mul _ _ _ _).trans (by rw [sgn_self, hx]), dig_length_le (by have := (bz_mul (x := acc) (y := zv (b, m)) (h := hbz) (h' := i2)).h; rwa [Int.natAbs_mul] at this)⟩
    refine T_skip ?_
    refine T_seq ?_
    refine T_block ?_
    refine T_draw 18 (by kernel_rfl) ?_
    refine Run.one (ok_fieldAddr_eq rfl rfl rfl) rfl rfl rfl ?_
    refine Run.one (ok_load_own 0 rfl rfl rfl rfl) rfl rfl rfl ?_
    refine Run.one (ok_move rfl rfl) rfl rfl rfl ?_
    refine Run.one (ok_move rfl rfl) rfl rfl rfl ?_
    refine Run.one (ok_indexAddr rfl rfl rfl (by omega) (y := (b, m)) (hp)) rfl rfl rfl ?_
    refine Run.one ((show OpOK _ _ _ _ _ (ptrS [boolS b, natS m]) from ok_fieldAddr rfl rfl rfl)) rfl rfl rfl ?_
    refine Run.one (ok_load rfl rfl) rfl rfl rfl ?_
    refine Run.one (ok_neq_bool rfl rfl rfl Tryz.isBool4) rfl rfl rfl ?_
    refine Run.one (ok_fieldAddr_eq rfl rfl rfl) rfl rfl rfl ?_
    refine Run.one (ok_load_own 0 rfl rfl rfl rfl) rfl rfl rfl ?_
    refine Run.one (ok_move rfl rfl) rfl rfl rfl ?_
    refine Run.one (ok_move rfl rfl) rfl rfl rfl ?_
    refine Run.one (ok_indexAddr rfl rfl rfl (by omega) (y := (b, m)) (hp)) rfl rfl rfl ?_
    refine Run.one ((show OpOK _ _ _ _ _ (ptrS [natS m]) from ok_fieldAddr rfl rfl rfl)) rfl rfl rfl ?_
    refine Run.one (ok_load rfl rfl) rfl rfl rfl ?_
    refine Run.one (ok_call rfl rfl (rmul_spec (by unfold cap; omega))) rfl rfl rfl ?_
    refine Run.one (ok_build rfl rfl rfl) rfl rfl rfl ?_
    refine Run.one (ok_call rfl rfl (rznorm_spec (by unfold cap; omega))) rfl rfl rfl ?_
    refine Run.nil ?_
    refine Run.store 0 rfl rfl rfl rfl rfl rfl rfl rfl rfl ?_
    refine Run.nil ?_
    refine T_region ?_
    refine Run.one (ok_move rfl rfl) rfl rfl rfl ?_
    refine Run.one (ok_ari rfl rfl rfl rfl (wrap_i64 (by omega) (by omega))) rfl rfl rfl ?_
    refine Run.one (ok_assign rfl rfl) rfl rfl rfl ?_
    refine Run.nil ?_
    exact ⟨i + 1, acc * zv (b, m), ⟨by omega, by rw [hacc, foldl_take (fun z p => z * zv p) 1 hp], bz_le (bz_mul (h := hbz) (h' := i2)) (by omega)⟩, by omega, ent_h (subG_cons rfl (subG_cons rfl (subG_cons rfl (subG_cons rfl (trivial))))) rfl⟩
  · have k9 := of_decide_eq_false h9
    have hie : i = xs.length := by omega
    rw [hie, List.take_length] at hacc
    refine T_exit ?_
    refine T_regionS ?_
    refine Run.one (ok_load_own_agg 0 rfl rfl rfl rfl rfl) rfl rfl rfl ?_
    refine Run.store 1 rfl rfl rfl rfl rfl rfl rfl rfl rfl ?_
    refine Run.nil ?_
    refine T_ret ?_
    exact ⟨_, [], .one (.agg 1 inferInstance rfl rfl rfl rfl), List.nil_sublist _, by rw [hacc]; rfl, rfl⟩
theorem rzmul2_spec {b c : Bool} {l m : List Nat} {x y : Int} {k j : Nat} [hx : IsZ b l x k] [hy : IsZ c m y j] (hs : 20 * (k + j) + 1100 ≤ cap := by decide) : PSpec Tryz.prog G 35 [slS 2 id [[boolS b, natS l], [boolS c, natS m]]] (aggS (canI (x * y))) := by
  have h := rzmul_spec (G := G) (xs := [(b, l), (c, m)]) (by intro p hp; rcases List.mem_cons.1 hp with rfl | hp; exact hx.lim; rw [List.mem_singleton.1 hp]; exact hy.lim) (by have := hx.len; have := hy.len; simp only [szs, List.length_cons, List.length_nil, List.take, List.map, List.sum_cons, List.sum_nil]; omega)
  have e : [(b, l), (c, m)].foldl (fun z p => z * zv p) 1 = x * y := by show 1 * sgn b (val l) * sgn c (val m) = _; rw [hx.val, hy.val, Int.one_mul]
  rw [e] at h
  exact h.args ⟨fun I v hv => sl_pair [(b, l), (c, m)] hv, trivial⟩
end Go.Proofs
