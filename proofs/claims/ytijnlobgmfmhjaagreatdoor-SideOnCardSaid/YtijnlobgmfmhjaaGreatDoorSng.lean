/- The product of prod: by halves, or limb by limb. -/
import Derived.Test.YtijnlobgmfmhjaaGreatDoorSnf
namespace Go.Proofs
open Go Go.Sv Num
variable {G : Imm}
instance isNat_shift {a : List Nat} {m n : Nat} [h : IsNat a m] : IsNat (List.replicate n 0 ++ a) (4294967296 ^ n * m) := isNat_above
instance sz_shift {a : List Nat} {n k : Nat} [h : Sz a k] : Sz (List.replicate n 0 ++ a) (n + k) := ⟨by have := h.h; simp; omega⟩
theorem add3_spec {a b c : List Nat} {m n o k l j : Nat} [ha : IsNat a m] [hb : IsNat b n] [hc : IsNat c o] [hk : Sz a k] [hl : Sz b l] [hj : Sz c j] (h : k + l + j + 3 ≤ cap) : PSpec Tryz.prog G 110 [slS 1 id [[natS a], [natS b], [natS c]]] (natS (dig (m + n + o))) := by
  have := add_spec (G := G) (ll := [a, b, c]) (fun l h => by simp at h; rcases h with rfl | rfl | rfl; exact ha.lim; exact hb.lim; exact hc.lim) (by have := hk.h; have := hl.h; have := hj.h; simp; omega)
  simp only [List.map_cons, List.map_nil, List.sum_cons, List.sum_nil, ha.val, hb.val, hc.val, Nat.add_zero, ← Nat.add_assoc] at this
  exact this
theorem sum_len {m n k l : Nat} [h : Bd m k] [h' : Bd n l] : (dig (m + n)).length ≤ max k l + 1 := dig_length_le (by
  have h1 := bd_le (l := max k l) h.h (Nat.le_refl _) (by omega)
  have h2 := bd_le (l := max k l) h'.h (Nat.le_refl _) (by omega)
  rw [pow_split]; omega)
theorem kara (p m0 m1 n0 n1 : Nat) : m0 * n0 + p * ((m0 + m1) * (n0 + n1) - (m0 * n0 + m1 * n1)) + p * p * (m1 * n1) = (m0 + p * m1) * (n0 + p * n1) := by
  have e : (m0 + m1) * (n0 + n1) - (m0 * n0 + m1 * n1) = m0 * n1 + m1 * n0 := by
    rw [Nat.add_mul, Nat.mul_add, Nat.mul_add]; omega
  rw [e]; grind
theorem mul1_spec (N : Nat) : ∀ (a b : List Nat) (m n : Nat), IsNat a m → IsNat b n → a.length + b.length ≤ N → 8 * (a.length + b.length) + 100 ≤ cap → PSpec Tryz.prog G 107 [natS a, natS b, mulP 107] (natS (dig (m * n))) := by
  refine Nat.strongRecOn N fun N ih => ?_
  intro a b m n hm hn hN hs
  have hs0 := hs
  unfold cap at hs
  obtain ⟨k, hk⟩ : ∃ k, k = max a.length b.length / 2 := ⟨_, rfl⟩
  refine fn_spec Tryz.func107 rfl rfl rfl ?_
  refine T_regionS ?_
  refine Run.one (ok_assign rfl rfl) rfl rfl rfl ?_
  refine Run.nil ?_
  refine T_regionS ?_
  refine Run.one (ok_move rfl rfl) rfl rfl rfl ?_
  refine Run.one (ok_len rfl rfl) rfl rfl rfl ?_
  refine Run.one (ok_move rfl rfl) rfl rfl rfl ?_
  refine Run.one (ok_len rfl rfl) rfl rfl rfl ?_
  refine Run.one (ok_max rfl rfl rfl) rfl rfl rfl ?_
  refine Run.one ((ok_quo rfl rfl rfl (by omega) (by omega) (wrap_i64 (by omega) (by omega))).sub (int_eq (n := ((k : Nat) : Int)) (by omega))) rfl rfl rfl ?_
  refine Run.one (ok_assign rfl rfl) rfl rfl rfl ?_
  refine Run.nil ?_
  refine T_seq ?_
  refine T_regionS ?_
  refine Run.one (ok_move rfl rfl) rfl rfl rfl ?_
  refine Run.one (ok_len rfl rfl) rfl rfl rfl ?_
  refine Run.one (ok_move rfl rfl) rfl rfl rfl ?_
  refine Run.one (ok_len rfl rfl) rfl rfl rfl ?_
  refine Run.one (ok_min rfl rfl rfl) rfl rfl rfl ?_
  refine Run.one (ok_move rfl rfl) rfl rfl rfl ?_
  refine Run.one (ok_max rfl rfl rfl) rfl rfl rfl ?_
  refine Run.one (ok_cmp rfl rfl rfl rfl) rfl rfl rfl ?_
  refine Run.nil ?_
  refine T_cond rfl rfl (fun h23 => ?_) (fun h23 => ?_)
  · have k23 := of_decide_eq_true h23
    refine T_regionS ?_
    refine Run.one (ok_move rfl rfl) rfl rfl rfl ?_
    refine Run.one (ok_move rfl rfl) rfl rfl rfl ?_
    refine Run.one (ok_call rfl rfl (plain_spec (by unfold cap; omega))) rfl rfl rfl ?_
    refine Run.one (ok_assign rfl rfl) rfl rfl rfl ?_
    refine Run.nil ?_
    refine T_ret ?_
    exact ⟨_, [], .one (.tmp rfl), List.nil_sublist _, rfl, rfl⟩
  · have k23 := of_decide_eq_false h23
    haveI i1 : IsNat ((a.take k).drop 0) (val (a.take k)) := isNat_of (lim_take hm.lim k)
    haveI i2 : IsNat ((a.take a.length).drop k) (val (a.drop k)) := by rw [List.take_length]; exact isNat_of (lim_drop hm.lim k)
    haveI i3 : IsNat ((b.take k).drop 0) (val (b.take k)) := isNat_of (lim_take hn.lim k)
    haveI i4 : IsNat ((b.take b.length).drop k) (val (b.drop k)) := by rw [List.take_length]; exact isNat_of (lim_drop hn.lim k)
    haveI s1 : Sz ((a.take k).drop 0) k := ⟨by simp; omega⟩
    haveI s2 : Sz ((a.take a.length).drop k) (a.length - k) := ⟨by simp⟩
    haveI s3 : Sz ((b.take k).drop 0) k := ⟨by simp; omega⟩
    haveI s4 : Sz ((b.take b.length).drop k) (b.length - k) := ⟨by simp⟩
    haveI b1 := Bd.of_val i1 s1
    haveI b2 := Bd.of_val i2 s2
    haveI b3 := Bd.of_val i3 s3
    haveI b4 := Bd.of_val i4 s4
    have l1 := s1.h
    have l2 := s2.h
    have l3 := s3.h
    have l4 := s4.h
    have hea := val_take_drop a k (by omega)
    have heb := val_take_drop b k (by omega)
    rw [hm.val] at hea
    rw [hn.val] at heb
    generalize val (a.take k) = m0 at *
    generalize val (a.drop k) = m1 at *
    generalize val (b.take k) = n0 at *
    generalize val (b.drop k) = n1 at *
    have l5 := sum_len (m := m0) (n := m1)
    have l6 := sum_len (m := n0) (n := n1)
    have l7 := Sz.h (l := dig ((m0 + m1) * (n0 + n1) - (m0 * n0 + m1 * n1)))
    have l8 := Sz.h (l := dig (m1 * n1))
    refine T_skip ?_
    refine T_drawS 18 (by kernel_rfl) ?_
    refine Run.one (ok_load_self rfl rfl) rfl rfl rfl ?_
    refine Run.one (ok_move rfl rfl) rfl rfl rfl ?_
    refine Run.one (ok_move rfl rfl) rfl rfl rfl ?_
    refine Run.one (ok_slice (lo := 0) (hi := k) (m := k) rfl rfl (.inl ⟨rfl, rfl⟩) (.inr ⟨_, _, rfl, rfl⟩) (.inl rfl) (by omega) (by omega)) rfl rfl rfl ?_
    refine Run.one (ok_move rfl rfl) rfl rfl rfl ?_
    refine Run.one (ok_move rfl rfl) rfl rfl rfl ?_
    refine Run.one (ok_slice (lo := 0) (hi := k) (m := k) rfl rfl (.inl ⟨rfl, rfl⟩) (.inr ⟨_, _, rfl, rfl⟩) (.inl rfl) (by omega) (by omega)) rfl rfl rfl ?_
    refine Run.one (ok_callV rfl rfl rfl (ih (k + k) (by omega) _ _ _ _ i1 i3 (by omega) (by unfold cap; omega))) rfl rfl rfl ?_
    refine Run.one (ok_load_self rfl rfl) rfl rfl rfl ?_
    refine Run.one (ok_move rfl rfl) rfl rfl rfl ?_
    refine Run.one (ok_move rfl rfl) rfl rfl rfl ?_
    refine Run.one (ok_slice (lo := k) (hi := a.length) (m := 0) rfl rfl (.inr ⟨_, _, rfl, rfl⟩) (.inl ⟨rfl, rfl, rfl⟩) (.inl rfl) (by omega) (Nat.le_refl _)) rfl rfl rfl ?_
    refine Run.one (ok_move rfl rfl) rfl rfl rfl ?_
    refine Run.one (ok_move rfl rfl) rfl rfl rfl ?_
    refine Run.one (ok_slice (lo := k) (hi := b.length) (m := 0) rfl rfl (.inr ⟨_, _, rfl, rfl⟩) (.inl ⟨rfl, rfl, rfl⟩) (.inl rfl) (by omega) (Nat.le_refl _)) rfl rfl rfl ?_
    refine Run.one (ok_callV rfl rfl rfl (ih (a.length - k + (b.length - k)) (by omega) _ _ _ _ i2 i4 (by omega) (by unfold cap; omega))) rfl rfl rfl ?_
    refine Run.one (ok_assign rfl rfl) rfl rfl rfl ?_
    refine Run.one (ok_assign rfl rfl) rfl rfl rfl ?_
    refine Run.nil ?_
    refine Run.nil ?_
    refine T_drawS 24 (by kernel_rfl) ?_
    refine Run.one (ok_load_self rfl rfl) rfl rfl rfl ?_
    refine Run.one (ok_move rfl rfl) rfl rfl rfl ?_
    refine Run.one (ok_move rfl rfl) rfl rfl rfl ?_
    refine Run.one (ok_slice (lo := 0) (hi := k) (m := k) rfl rfl (.inl ⟨rfl, rfl⟩) (.inr ⟨_, _, rfl, rfl⟩) (.inl rfl) (by omega) (by omega)) rfl rfl rfl ?_
    refine Run.one (ok_move rfl rfl) rfl rfl rfl ?_
    refine Run.one (ok_move rfl rfl) rfl rfl rfl ?_
    refine Run.one (ok_slice (lo := k) (hi := a.length) (m := 0) rfl rfl (.inr ⟨_, _, rfl, rfl⟩) (.inl ⟨rfl, rfl, rfl⟩) (.inl rfl) (by omega) (Nat.le_refl _)) rfl rfl rfl ?_
    refine Run.one (ok_buildSlice rfl rfl (by decide) rfl (by simp) rfl rfl) rfl rfl rfl ?_
    refine Run.one (ok_call rfl rfl (add2_spec (by unfold cap; omega))) rfl rfl rfl ?_
    refine Run.one (ok_move rfl rfl) rfl rfl rfl ?_
    refine Run.one (ok_move rfl rfl) rfl rfl rfl ?_
    refine Run.one (ok_slice (lo := 0) (hi := k) (m := k) rfl rfl (.inl ⟨rfl, rfl⟩) (.inr ⟨_, _, rfl, rfl⟩) (.inl rfl) (by omega) (by omega)) rfl rfl rfl ?_
    refine Run.one (ok_move rfl rfl) rfl rfl rfl ?_
    refine Run.one (ok_move rfl rfl) rfl rfl rfl ?_
    refine Run.one (ok_slice (lo := k) (hi := b.length) (m := 0) rfl rfl (.inr ⟨_, _, rfl, rfl⟩) (.inl ⟨rfl, rfl, rfl⟩) (.inl rfl) (by omega) (Nat.le_refl _)) rfl rfl rfl ?_
    refine Run.one (ok_buildSlice rfl rfl (by decide) rfl (by simp) rfl rfl) rfl rfl rfl ?_
    refine Run.one (ok_call rfl rfl (add2_spec (by unfold cap; omega))) rfl rfl rfl ?_
    refine Run.one (ok_callV rfl rfl rfl (ih ((dig (m0 + m1)).length + (dig (n0 + n1)).length) (by omega) _ _ _ _ isNat_dig isNat_dig (Nat.le_refl _) (by unfold cap; omega))) rfl rfl rfl ?_
    refine Run.one (ok_move rfl rfl) rfl rfl rfl ?_
    refine Run.one (ok_move rfl rfl) rfl rfl rfl ?_
    refine Run.one (ok_buildSlice rfl rfl (by decide) rfl (by simp) rfl rfl) rfl rfl rfl ?_
    refine Run.one (ok_call rfl rfl (add2_spec (by unfold cap; omega))) rfl rfl rfl ?_
    refine Run.one (ok_call rfl rfl (less_spec (Sz.le2 (by unfold cap; omega)))) rfl rfl rfl ?_
    refine Run.one (ok_assign rfl rfl) rfl rfl rfl ?_
    refine Run.nil ?_
    refine Run.nil ?_
    refine T_regionS ?_
    refine Run.one (ok_move rfl rfl) rfl rfl rfl ?_
    refine Run.one (ok_move rfl rfl) rfl rfl rfl ?_
    refine Run.one (ok_move rfl rfl) rfl rfl rfl ?_
    refine Run.one (ok_call rfl rfl (above_spec (by unfold cap; omega))) rfl rfl rfl ?_
    refine Run.one (ok_move rfl rfl) rfl rfl rfl ?_
    refine Run.one (ok_move rfl rfl) rfl rfl rfl ?_
    refine Run.one (ok_ari (z := ((2 * k : Nat) : Int)) rfl rfl rfl (congrArg some (by omega)) (wrap_i64 (by omega) (by omega))) rfl rfl rfl ?_
    refine Run.one (ok_call rfl rfl (above_spec (by unfold cap; omega))) rfl rfl rfl ?_
    refine Run.one (ok_buildSlice rfl rfl (by decide) rfl (by simp) rfl rfl) rfl rfl rfl ?_
    refine Run.one (ok_call rfl rfl (add3_spec (by unfold cap; omega))) rfl rfl rfl ?_
    refine Run.one (ok_assign rfl rfl) rfl rfl rfl ?_
    refine Run.nil ?_
    refine T_ret ?_
    exact ⟨_, [], .one (.tmp rfl), List.nil_sublist _, congrArg natS (congrArg dig (by rw [hea, heb, ← kara, Nat.two_mul, Nat.pow_add])), rfl⟩
theorem mul_spec {a b : List Nat} {m n k l : Nat} [hm : IsNat a m] [hn : IsNat b n] [hk : Sz a k] [hl : Sz b l] (h : 8 * (k + l) + 100 ≤ cap := by decide) : PSpec Tryz.prog G 97 [natS a, natS b] (natS (dig (m * n))) := by
  have h1 := hk.h
  have h2 := hl.h
  have h3 : (dig m).length ≤ k := by have := Bd.of_val hm hk; exact dig_length_le this.h
  have h4 : (dig n).length ≤ l := by have := Bd.of_val hn hl; exact dig_length_le this.h
  refine fn_spec Tryz.func97 rfl rfl rfl ?_
  refine T_regionS ?_
  refine Run.one (ok_assign rfl rfl) rfl rfl rfl ?_
  refine Run.nil ?_
  refine T_regionS ?_
  refine Run.alloc rfl rfl rfl rfl rfl fun b5 => ?_
  refine Run.nil ?_
  refine T_regionS ?_
  refine Run.one (ok_makeFunc rfl rfl) rfl rfl rfl ?_
  refine Run.store 0 rfl rfl rfl rfl rfl rfl rfl rfl rfl ?_
  refine Run.ghost _ rfl (ghost_self 0 5 rfl rfl) ?_
  refine Run.nil ?_
  refine T_drawS 7 (by kernel_rfl) ?_
  refine Run.one (ok_load_self rfl rfl) rfl rfl rfl ?_
  refine Run.one (ok_move rfl rfl) rfl rfl rfl ?_
  refine Run.one (ok_call rfl rfl (trim_spec (by omega))) rfl rfl rfl ?_
  refine Run.one (ok_move rfl rfl) rfl rfl rfl ?_
  refine Run.one (ok_call rfl rfl (trim_spec (by omega))) rfl rfl rfl ?_
  refine Run.one (ok_callV rfl rfl rfl (mul1_spec _ _ _ _ _ isNat_dig isNat_dig (Nat.le_refl _) (by omega))) rfl rfl rfl ?_
  refine Run.one (ok_assign rfl rfl) rfl rfl rfl ?_
  refine Run.nil ?_
  refine Run.nil ?_
  refine T_ret ?_
  exact ⟨_, [], .one (.tmp rfl), List.nil_sublist _, rfl, rfl⟩
end Go.Proofs
