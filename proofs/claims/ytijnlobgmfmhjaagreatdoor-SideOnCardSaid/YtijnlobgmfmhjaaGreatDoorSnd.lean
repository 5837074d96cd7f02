/- Contracts of the sum and the difference of nat. -/
import Derived.Test.YtijnlobgmfmhjaaGreatDoorSnc
namespace Go.Proofs
open Go Go.Sv Num
variable {G : Imm}
theorem flat_u32_length (l : List Nat) : (l.flatMap u32S).length = l.length * 1 := by
  induction l with
  | nil => rfl
  | cons x l ih => simp only [List.flatMap_cons, List.length_append, ih, List.length_cons, List.length_nil]; omega
theorem shr32 (m : Nat) : (m : Int) / 2 ^ (32 : Int).toNat = ((m / 4294967296 : Nat) : Int) := by simp
theorem shr63 (m : Nat) : (m : Int) / 2 ^ (63 : Int).toNat = ((m / 9223372036854775808 : Nat) : Int) := by simp
theorem carry_step {p v o t x y z o' a b : Nat} (h : v + p * o = a + b) (ht : t = o + (x + y)) (hz : z = t % 4294967296) (ho : o' = t / 4294967296) : v + p * z + p * 4294967296 * o' = a + p * x + (b + p * y) := by
  have e : p * (t % 4294967296) + p * 4294967296 * (t / 4294967296) = p * t := by rw [Nat.mul_assoc, ← Nat.mul_add, Nat.mod_add_div]
  subst hz; subst ho
  rw [ht, Nat.mul_add, Nat.mul_add] at e
  rw [ht]; omega
def sb (x y u : Nat) : Nat := if y + u ≤ x then x - y - u else 18446744073709551616 + x - y - u
theorem borrow_step {p v o x y a b : Nat} (hx : x < 4294967296) (hy : y < 4294967296) (ho : o ≤ 1) (h : a + p * o = v + b) :
    a + p * x + p * 4294967296 * (sb x y o / 9223372036854775808) = v + p * (sb x y o % 4294967296) + (b + p * y) := by
  have e : x + 4294967296 * (sb x y o / 9223372036854775808) = sb x y o % 4294967296 + y + o := by unfold sb; split <;> omega
  have e2 := congrArg (p * ·) e
  simp only [Nat.mul_add, ← Nat.mul_assoc] at e2
  omega
theorem sum_take {α : Type} (f : α → Nat) {l : List α} {g : Nat} {a : α} (h : l[g]? = some a) : ((l.take (g + 1)).map f).sum = ((l.take g).map f).sum + f a := by
  rw [List.take_add_one, h]; simp
theorem sum_take_le {α : Type} (f : α → Nat) (l : List α) (g : Nat) : ((l.take g).map f).sum ≤ (l.map f).sum := by
  have : (l.map f).sum = ((l.take g).map f).sum + ((l.drop g).map f).sum := by rw [← List.sum_append, ← List.map_append, List.take_append_drop]
  omega
def chunkN (ll : List (List Nat)) : List (List SV) := ll.map fun l => [natS l]
theorem add_spec {ll : List (List Nat)} (hl : ∀ l ∈ ll, Lim l) (hs : (ll.map List.length).sum + ll.length ≤ cap) : PSpec Tryz.prog G 110 [slS 1 id (chunkN ll)] (natS (dig (ll.map val).sum)) := by
  unfold cap at hs
  have hcl : (chunkN ll).length = ll.length := by simp [chunkN]
  refine fn_spec Tryz.func110 rfl rfl rfl ?_
  refine T_regionS ?_
  refine Run.one (ok_assign rfl rfl) rfl rfl rfl ?_
  refine Run.nil ?_
  refine T_seq ?_
  refine T_regionS ?_
  refine Run.one (ok_move rfl rfl) rfl rfl rfl ?_
  refine Run.one (ok_len rfl rfl) rfl rfl rfl ?_
  refine Run.one (ok_move rfl rfl) rfl rfl rfl ?_
  refine Run.nil ?_
  refine T_block ?_
  refine T_loop3 (fun g s d => ⟨_, [(11, intS .i64 (g : Nat)), (10, intS .i64 ll.length), (9, slS 1 id (chunkN ll)), (2, natS s)], [], d, (0, false)⟩)
      (fun g s d => g ≤ ll.length ∧ Lim s ∧ val s = ((ll.take g).map val).sum ∧ s.length ≤ ((ll.take g).map List.length).sum + g) (fun g s d => ll.length - g) 0 [] [] ⟨Nat.zero_le _, lim_nil, rfl, Nat.le_refl _⟩
      (ent_g (subG_cons rfl (subG_as rfl (congrArg (intS .i64) (by rw [hcl])) (subG_cons rfl ⟨⟨_, rfl, nil_nat rfl⟩, trivial⟩)))) ?_
  rintro g s d ⟨hg, hls, hvs, hns⟩
  refine T_regionS ?_
  refine Run.one (ok_cmp rfl rfl rfl rfl) rfl rfl rfl ?_
  refine Run.nil ?_
  refine T_seq ?_
  refine T_cond rfl rfl (fun h12 => ?_) (fun h12 => ?_)
  · have k12 := of_decide_eq_true h12
    obtain ⟨a, ha⟩ : ∃ a, ll[g]? = some a := ⟨_, List.getElem?_eq_getElem (by omega)⟩
    have hla := hl a (List.mem_of_getElem? ha)
    have hsl := sum_take List.length ha
    have hsv := sum_take val ha
    have hle := sum_take_le List.length ll (g + 1)
    refine T_skip ?_
    refine T_seq ?_
    refine T_block ?_
    refine T_regionS ?_
    refine Run.one (ok_indexAddr rfl rfl rfl (by omega) (y := [natS a]) (by show (chunkN ll)[g]? = _; simp [chunkN, ha])) rfl rfl rfl ?_
    refine Run.one (ok_load rfl rfl) rfl rfl rfl ?_
    refine Run.one (ok_assign rfl rfl) rfl rfl rfl ?_
    refine Run.nil ?_
    refine T_regionS ?_
    refine Run.alloc rfl rfl rfl rfl rfl fun b5 => ?_
    refine Run.store 0 rfl rfl rfl rfl rfl rfl rfl rfl rfl ?_
    refine Run.nil ?_
    refine T_regionS ?_
    refine Run.one (ok_move rfl rfl) rfl rfl rfl ?_
    refine Run.one (ok_len rfl rfl) rfl rfl rfl ?_
    refine Run.one (ok_move rfl rfl) rfl rfl rfl ?_
    refine Run.one (ok_len rfl rfl) rfl rfl rfl ?_
    refine Run.one (ok_max rfl rfl rfl) rfl rfl rfl ?_
    refine Run.one (ok_ari (z := ((max a.length s.length + 1 : Nat) : Int)) rfl rfl rfl (congrArg some (by omega)) (wrap_i64 (by omega) (by omega))) rfl rfl rfl ?_
    refine Run.make (n := 0) (c := max a.length s.length + 1) rfl rfl rfl rfl rfl rfl rfl (by omega) (by omega) (by unfold big; omega) fun b21 hb21 => ?_
    refine Run.alloc rfl rfl rfl rfl rfl fun b6 => ?_
    refine Run.store 0 rfl rfl rfl rfl rfl rfl rfl rfl rfl ?_
    refine Run.nil ?_
    refine T_seq ?_
    refine T_regionS ?_
    refine Run.one (ok_move rfl rfl) rfl rfl rfl ?_
    refine Run.one (ok_move rfl rfl) rfl rfl rfl ?_
    refine Run.one (ok_call rfl rfl pairs_spec) rfl rfl rfl ?_
    refine Run.nil ?_
    refine T_block ?_
    refine T_rng rfl rfl (pairs1_spec (a := s) (b := a) hls hla) (fun ss h => pairsX_ss h) (by decide) rfl
        (fun k h i => i = (0, false) ∧ ∃ q over out, rowOk q k ∧ over ≤ 1 ∧ Lim out ∧ out.length = k ∧ val out + 4294967296 ^ k * over = low s k + low a k ∧
          h = [⟨some b6, 23, [eqS (rowV q k)], 0⟩, rowE q 65 1 k (out.flatMap u32S), ⟨some b5, 77, [intS .u64 (over : Nat)], 0⟩])
        (fun _ _ _ => False) ⟨rfl, _, 0, [], hb21, by omega, lim_nil, rfl, rfl, rfl⟩ ?_ ?_ ?_
    · rintro l k ss h i hk ⟨rfl, q, over, out, hq, ho, hlo, hln, hval, rfl⟩
      obtain ⟨hk1, rfl⟩ := pairsX_inv hk
      have hx := limb_lt hls k
      have hy := limb_lt hla k
      refine T_regionS ?_
      refine Run.one (ok_assign rfl rfl) rfl rfl rfl ?_
      refine Run.nil ?_
      refine T_region ?_
      refine Run.one (ok_assign rfl rfl) rfl rfl rfl ?_
      refine Run.nil ?_
      refine ⟨rfl, ?_⟩
      refine T_block ?_
      refine T_regionS ?_
      refine Run.one (ok_load_own 2 rfl rfl rfl rfl) rfl rfl rfl ?_
      refine Run.one (ok_move rfl rfl) rfl rfl rfl ?_
      refine Run.one (ok_move rfl rfl) rfl rfl rfl ?_
      refine Run.one (ok_ari rfl rfl rfl rfl (wrap_u64 (by omega) (by omega))) rfl rfl rfl ?_
      refine Run.one (ok_ari (z := ((over + (limb s k + limb a k) : Nat) : Int)) rfl rfl rfl (congrArg some (by omega)) (wrap_u64 (by omega) (by omega))) rfl rfl rfl ?_
      refine Run.store 2 rfl rfl rfl rfl rfl rfl rfl rfl rfl ?_
      refine Run.nil ?_
      refine T_regionS ?_
      refine Run.one (ok_load_own 0 rfl rfl rfl rfl) rfl rfl rfl ?_
      refine Run.one (ok_load_own 2 rfl rfl rfl rfl) rfl rfl rfl ?_
      refine Run.one (ok_conv (z := (((over + (limb s k + limb a k)) % 4294967296 : Nat) : Int)) rfl rfl wrap_u32_mod) rfl rfl rfl ?_
      refine Run.one (ok_buildNat [(over + (limb s k + limb a k)) % 4294967296] rfl rfl (by decide) rfl (by simp) rfl rfl rfl) rfl rfl rfl ?_
      refine Run.append 1 rfl rfl rfl rfl rfl rfl rfl rfl hq (by rw [flat_u32_length, hln]) flat_u32 (by unfold big; simp; omega) (by unfold big; simp; omega) fun q36 hq36 => ?_
      refine Run.store 0 rfl rfl rfl rfl rfl rfl rfl rfl rfl ?_
      refine Run.nil ?_
      refine T_region ?_
      refine Run.one (ok_load_own 2 rfl rfl rfl rfl) rfl rfl rfl ?_
      refine Run.one ((ok_shr rfl rfl rfl (by omega) (by simp [IntKind.bits])).sub (int_eq (shr32 _))) rfl rfl rfl ?_
      refine Run.store 2 rfl rfl rfl rfl rfl rfl rfl rfl rfl ?_
      refine Run.nil ?_
      refine ⟨rfl, q36, (over + (limb s k + limb a k)) / 4294967296, out ++ [(over + (limb s k + limb a k)) % 4294967296], hq36, by omega, lim_snoc hlo (by omega), by simp [hln], ?_, by rw [List.flatMap_append]; rfl⟩
      rw [val_snoc, hln, low_succ, low_succ, pow_split]; exact carry_step hval rfl rfl rfl
    · rintro h i D ⟨rfl, q, over, out, hq, ho, hlo, hln, hval, rfl⟩
      rw [pairsX_length] at hln hval hq
      rw [low_all (by omega), low_all (by omega)] at hval
      refine T_region ?_
      refine Run.one (ok_load_own 0 rfl rfl (by rw [pairsX_length]; rfl) rfl) rfl rfl rfl ?_
      refine Run.one (ok_load_own 2 rfl rfl rfl rfl) rfl rfl rfl ?_
      refine Run.one (ok_conv rfl rfl (wrap_u32 (by omega) (by omega))) rfl rfl rfl ?_
      refine Run.one (ok_buildNat [over] rfl rfl (by decide) rfl (by simp) rfl rfl rfl) rfl rfl rfl ?_
      refine Run.append 1 rfl rfl rfl rfl (by rw [pairsX_length]; rfl) rfl rfl rfl hq (by rw [flat_u32_length, hln]) flat_u32 (by unfold big; simp; omega) (by unfold big; simp; omega) fun q43 hq43 => ?_
      refine Run.one (ok_assign rfl rfl) rfl rfl rfl ?_
      refine Run.ghost _ rfl (ghost_sl 1 2 rfl rfl hq43 (l := out ++ [over]) (f := u32S) (by simp [hln]) List.flatMap_append.symm flat_u32 (by unfold big; simp; omega)) ?_
      refine Run.ghost _ rfl (ghost_drop (List.nil_sublist _)) ?_
      refine Run.nil ?_
      refine T_region ?_
      refine Run.one (ok_ari rfl rfl rfl rfl (wrap_i64 (by omega) (by omega))) rfl rfl rfl ?_
      refine Run.one (ok_move rfl rfl) rfl rfl rfl ?_
      refine Run.nil ?_
      refine ⟨g + 1, out ++ [over], D ++ d, ⟨by omega, lim_snoc hlo (by omega), ?_, ?_⟩, by omega, ent_g (subG_cons rfl (subG_cons rfl (subG_cons rfl (subG_cons rfl trivial))))⟩
      · rw [val_snoc, hln, hsv]; omega
      · simp only [List.length_append, List.length_cons, List.length_nil, hln]; omega
    · intro h i D e c hc hInv; exact hInv.elim
  · have k12 := of_decide_eq_false h12
    have hgl : g = ll.length := by omega
    subst hgl
    rw [List.take_length] at hvs hns
    haveI := isNat_of hls
    refine T_exit ?_
    refine T_regionS ?_
    refine Run.one (ok_move rfl rfl) rfl rfl rfl ?_
    refine Run.one (ok_call rfl rfl (trim_spec (by unfold cap; omega))) rfl rfl rfl ?_
    refine Run.one (ok_assign rfl rfl) rfl rfl rfl ?_
    refine Run.nil ?_
    refine T_ret ?_
    exact ⟨_, [], .one (.tmp rfl), List.nil_sublist _, congrArg natS (congrArg dig hvs), rfl⟩
theorem add2_spec {a b : List Nat} {m n k l : Nat} [ha : IsNat a m] [hb : IsNat b n] [hk : Sz a k] [hl : Sz b l] (h : k + l + 2 ≤ cap := by decide) : PSpec Tryz.prog G 110 [slS 1 id [[natS a], [natS b]]] (natS (dig (m + n))) := by
  have := add_spec (G := G) (ll := [a, b]) (fun l h => by simp at h; rcases h with rfl | rfl; exact ha.lim; exact hb.lim) (by have := hk.h; have := hl.h; simp; omega)
  simp only [List.map_cons, List.map_nil, List.sum_cons, List.sum_nil, ha.val, hb.val, Nat.add_zero] at this
  exact this
theorem sub_spec {a b : List Nat} {m n : Nat} [hm : IsNat a m] [hn : IsNat b n] (hs : max a.length b.length ≤ cap := by exact Sz.le2 (by decide)) : PSpec Tryz.prog G 118 [natS a, natS b] (tupS [natS (dig (m - n)), intS .i64 (if m < n then 10 else 0)]) := by
  unfold cap at hs
  refine fn_spec Tryz.func118 rfl rfl rfl ?_
  refine T_regionS ?_
  refine Run.one (ok_assign rfl rfl) rfl rfl rfl ?_
  refine Run.one (ok_assign rfl rfl) rfl rfl rfl ?_
  refine Run.nil ?_
  refine T_seq ?_
  refine T_regionS ?_
  refine Run.one (ok_move rfl rfl) rfl rfl rfl ?_
  refine Run.one (ok_move rfl rfl) rfl rfl rfl ?_
  refine Run.one (ok_call rfl rfl cmp_spec) rfl rfl rfl ?_
  refine Run.one (ok_cmp rfl rfl rfl rfl) rfl rfl rfl ?_
  refine Run.nil ?_
  refine T_cond rfl rfl (fun h14 => ?_) (fun h14 => ?_)
  · have k14 := of_decide_eq_true h14
    have hlt : m < n := by unfold tri at k14; split at k14; assumption; split at k14 <;> omega
    refine T_regionS ?_
    refine Run.one ((ok_assign rfl rfl).sub (nil_nat (l := dig (m - n)) (dig_eq_nil.2 (by omega)))) rfl rfl rfl ?_
    refine Run.one (ok_assign rfl rfl) rfl rfl rfl ?_
    refine Run.nil ?_
    refine T_ret ?_
    exact ⟨_, [], .many (.cons (.tmp rfl) (.cons (.tmp rfl) (.nil))), List.nil_sublist _, by rw [if_pos hlt], rfl⟩
  · have k14 := of_decide_eq_false h14
    have hge : n ≤ m := by unfold tri at k14; split at k14 <;> omega
    refine T_skip ?_
    refine T_regionS ?_
    refine Run.ghost _ rfl (ghost_row 65 1) ?_
    refine Run.alloc rfl rfl rfl rfl rfl fun b6 => ?_
    refine Run.nil ?_
    refine T_regionS ?_
    refine Run.alloc rfl rfl rfl rfl rfl fun b7 => ?_
    refine Run.store 0 rfl rfl rfl rfl rfl rfl rfl rfl rfl ?_
    refine Run.nil ?_
    refine T_seq ?_
    refine T_regionS ?_
    refine Run.one (ok_move rfl rfl) rfl rfl rfl ?_
    refine Run.one (ok_move rfl rfl) rfl rfl rfl ?_
    refine Run.one (ok_call rfl rfl pairs_spec) rfl rfl rfl ?_
    refine Run.nil ?_
    refine T_block ?_
    refine T_rng rfl rfl (pairs1_spec (a := a) (b := b) hm.lim hn.lim) (fun ss h => pairsX_ss h) (by decide) rfl
        (fun k h i => i = (0, false) ∧ ∃ q under out, rowOk q k ∧ under ≤ 1 ∧ Lim out ∧ out.length = k ∧ low a k + 4294967296 ^ k * under = val out + low b k ∧
          h = [⟨some b7, 77, [intS .u64 (under : Nat)], 0⟩, ⟨some b6, 23, [eqS (rowV q k)], 0⟩, rowE q 65 1 k (out.flatMap u32S)])
        (fun _ _ _ => False) ⟨rfl, none, 0, [], rfl, by omega, lim_nil, rfl, rfl, rfl⟩ ?_ ?_ ?_
    · rintro l k ss h i hk ⟨rfl, q, under, out, hq, ho, hlo, hln, hval, rfl⟩
      obtain ⟨hk1, rfl⟩ := pairsX_inv hk
      have hx := limb_lt hm.lim k
      have hy := limb_lt hn.lim k
      refine T_regionS ?_
      refine Run.one (ok_assign rfl rfl) rfl rfl rfl ?_
      refine Run.nil ?_
      refine T_region ?_
      refine Run.one (ok_assign rfl rfl) rfl rfl rfl ?_
      refine Run.nil ?_
      refine ⟨rfl, ?_⟩
      refine T_block ?_
      refine T_regionS ?_
      refine Run.one (ok_move rfl rfl) rfl rfl rfl ?_
      refine Run.one (ok_move rfl rfl) rfl rfl rfl ?_
      refine Run.one (ok_ari_wrap rfl rfl rfl rfl) rfl rfl rfl ?_
      refine Run.one (ok_load_own 0 rfl rfl rfl rfl) rfl rfl rfl ?_
      refine Run.one ((ok_ari_wrap rfl rfl rfl rfl).sub (int_eq (show _ = ((sb (limb a k) (limb b k) under : Nat) : Int) by rw [wrap_u64_mod, wrap_u64_mod]; unfold sb; split <;> omega))) rfl rfl rfl ?_
      refine Run.one (ok_assign rfl rfl) rfl rfl rfl ?_
      refine Run.nil ?_
      refine T_regionS ?_
      refine Run.one (ok_load_own 1 rfl rfl rfl rfl) rfl rfl rfl ?_
      refine Run.one (ok_move rfl rfl) rfl rfl rfl ?_
      refine Run.one (ok_conv (z := ((sb (limb a k) (limb b k) under % 4294967296 : Nat) : Int)) rfl rfl wrap_u32_mod) rfl rfl rfl ?_
      refine Run.one (ok_buildNat [sb (limb a k) (limb b k) under % 4294967296] rfl rfl (by decide) rfl (by simp) rfl rfl rfl) rfl rfl rfl ?_
      refine Run.append 2 rfl rfl rfl rfl rfl rfl rfl rfl hq (by rw [flat_u32_length, hln]) flat_u32 (by unfold big; simp; omega) (by unfold big; simp; omega) fun q29 hq29 => ?_
      refine Run.store 1 rfl rfl rfl rfl rfl rfl rfl rfl rfl ?_
      refine Run.nil ?_
      refine T_region ?_
      refine Run.one (ok_move rfl rfl) rfl rfl rfl ?_
      refine Run.one ((ok_shr rfl rfl rfl (by omega) (by simp [IntKind.bits])).sub (int_eq (shr63 _))) rfl rfl rfl ?_
      refine Run.store 0 rfl rfl rfl rfl rfl rfl rfl rfl rfl ?_
      refine Run.nil ?_
      refine ⟨rfl, q29, sb (limb a k) (limb b k) under / 9223372036854775808, out ++ [sb (limb a k) (limb b k) under % 4294967296], hq29, ?_, lim_snoc hlo (by omega), by simp [hln], ?_, by rw [List.flatMap_append]; rfl⟩
      · unfold sb; split <;> omega
      · rw [val_snoc, hln, low_succ, low_succ, pow_split]; exact borrow_step hx hy ho hval
    · rintro h i D ⟨rfl, q, under, out, hq, ho, hlo, hln, hval, rfl⟩
      rw [pairsX_length] at hln hval hq
      rw [low_all (by omega), low_all (by omega), hm.val, hn.val] at hval
      have hv := val_lt hlo
      rw [hln] at hv
      have hu : under = 0 := by
        rcases Nat.lt_or_ge 0 under with h | h
        · have : under = 1 := by omega
          subst this; omega
        · omega
      subst hu
      haveI : IsNat out (m - n) := ⟨hlo, by omega⟩
      refine T_regionS ?_
      refine Run.one (ok_load_own 1 rfl rfl rfl rfl) rfl rfl rfl ?_
      refine Run.ghost _ rfl (ghost_sl 2 32 rfl rfl (by rw [pairsX_length]; exact hq) (l := out) (f := u32S) (by rw [pairsX_length]; exact hln) rfl flat_u32 (by rw [pairsX_length]; unfold big; omega)) ?_
      refine Run.one (ok_call rfl rfl (trim_spec (by unfold cap; omega))) rfl rfl rfl ?_
      refine Run.one (ok_assign rfl rfl) rfl rfl rfl ?_
      refine Run.one (ok_assign rfl rfl) rfl rfl rfl ?_
      refine Run.nil ?_
      refine T_ret ?_
      exact ⟨_, [], .many (.cons (.tmp rfl) (.cons (.tmp rfl) (.nil))), List.nil_sublist _, by rw [if_neg (by omega)], rfl⟩
    · intro h i D e c hc hInv; exact hInv.elim
end Go.Proofs
