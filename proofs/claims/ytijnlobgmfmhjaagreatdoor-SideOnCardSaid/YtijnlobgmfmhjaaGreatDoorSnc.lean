/- Contracts of the functions of nat, on. -/
import Derived.Test.YtijnlobgmfmhjaaGreatDoorSnb
namespace Go.Proofs
open Go Go.Sv Num
variable {G : Imm}
def pairsX (a b : List Nat) : List (List SV) := (List.range (max a.length b.length)).map fun i => [intS .u64 (limb a i), intS .u64 (limb b i)]
theorem pairsX_length {a b : List Nat} : (pairsX a b).length = max a.length b.length := by simp [pairsX]
theorem pairsX_get {a b : List Nat} {i : Nat} (h : i < max a.length b.length) : (pairsX a b)[i]? = some [intS .u64 (limb a i), intS .u64 (limb b i)] := by
  simp only [pairsX, List.getElem?_map, List.getElem?_range h, Option.map_some]
theorem pairsX_inv {a b : List Nat} {i : Nat} {ss : List SV} (h : (pairsX a b)[i]? = some ss) : i < max a.length b.length ∧ ss = [intS .u64 (limb a i), intS .u64 (limb b i)] := by
  have h1 : i < max a.length b.length := by have := lt_of_get h; rwa [pairsX_length] at this
  refine ⟨h1, ?_⟩
  rw [pairsX_get h1] at h; exact (Option.some.inj h).symm
theorem pairsX_ss {a b : List Nat} {ss : List SV} (h : ss ∈ pairsX a b) : ss.length = 2 := by
  obtain ⟨i, _, rfl⟩ := List.mem_map.1 h; rfl
theorem small_is {l : List Nat} {n : Nat} (hl : Lim l) (hv : val l = n) (hz : ∀ j, 1 < j → limb l j = 0) : n = limb l 0 + 4294967296 * limb l 1 ∧ n < 18446744073709551616 := by
  have h0 := limb_lt hl 0
  have h1 := limb_lt hl 1
  have : val l = val [limb l 0, limb l 1] := val_congr fun j => by
    match j with
    | 0 => rfl
    | 1 => rfl
    | j + 2 => rw [hz _ (by omega)]; rfl
  simp [val] at this
  omega
theorem small_not {l : List Nat} {n : Nat} (_ : Lim l) (hv : val l = n) {j : Nat} (hj : 1 < j) (h : limb l j ≠ 0) : ¬ n < 18446744073709551616 := by
  intro hn
  have h1 : j < l.length := by
    by_cases h1 : j < l.length
    · exact h1
    · exact absurd (limb_out (by omega)) h
  have e := val_take_drop l j (by omega)
  have hp : val (l.drop j) ≠ 0 := by
    rw [List.drop_eq_getElem_cons h1]
    have : limb l j = l[j] := by simp [limb, List.getD_eq_getElem?_getD, h1]
    simp only [val]; omega
  have : 4294967296 ^ 2 ≤ 4294967296 ^ j := Nat.pow_le_pow_right (by omega) (by omega)
  have h3 : 4294967296 ^ j * 1 ≤ 4294967296 ^ j * val (l.drop j) := Nat.mul_le_mul_left _ (by omega)
  omega
theorem cmp_spec {a b : List Nat} {m n : Nat} [hm : IsNat a m] [hn : IsNat b n] : PSpec Tryz.prog G 122 [natS a, natS b] (intS .i64 (tri m n)) := by
  refine fn_spec Tryz.func122 rfl rfl rfl ?_
  refine T_len 0 rfl fun ha => T_len 1 rfl fun hb => ?_
  unfold big at ha hb
  refine T_regionS ?_
  refine Run.one (ok_assign rfl rfl) rfl rfl rfl ?_
  refine Run.nil ?_
  refine T_scope ?_
  refine T_seq ?_
  refine T_label ?_
  refine T_seq ?_
  refine T_regionS ?_
  refine Run.one (ok_move rfl rfl) rfl rfl rfl ?_
  refine Run.one (ok_len rfl rfl) rfl rfl rfl ?_
  refine Run.one (ok_move rfl rfl) rfl rfl rfl ?_
  refine Run.one (ok_len rfl rfl) rfl rfl rfl ?_
  refine Run.one (ok_max rfl rfl rfl) rfl rfl rfl ?_
  refine Run.one (ok_ari (z := ((max a.length b.length : Nat) : Int) - 1) rfl rfl rfl (congrArg some (by omega)) (wrap_i64 (by omega) (by omega))) rfl rfl rfl ?_
  refine Run.one (ok_assign rfl rfl) rfl rfl rfl ?_
  refine Run.nil ?_
  refine T_block ?_
  refine T_loop (γ := Nat) (fun g => ⟨_, [(5, intS .i64 ((g : Int) - 1)), (4, intS .i64 0), (0, natS a), (1, natS b)], [], [], (0, false)⟩) (fun g => g ≤ max a.length b.length ∧ ∀ j, g ≤ j → j < max a.length b.length → limb a j = limb b j) (fun g => g) (max a.length b.length) ⟨Nat.le_refl _, fun j h1 h2 => by omega⟩ (ent_g (subG_cons rfl (subG_cons rfl (subG_cons rfl (subG_cons rfl trivial))))) ?_
  rintro g ⟨hg, hz⟩
  refine T_seq ?_
  refine T_regionS ?_
  refine Run.one (ok_move rfl rfl) rfl rfl rfl ?_
  refine Run.one (ok_cmp rfl rfl rfl rfl) rfl rfl rfl ?_
  refine Run.nil ?_
  refine T_cond rfl rfl (fun h15 => ?_) (fun h15 => ?_)
  · have k15 := of_decide_eq_true h15
    refine T_skip ?_
    refine T_seq ?_
    refine T_block ?_
    refine T_regionS ?_
    refine Run.one (ok_move rfl rfl) rfl rfl rfl ?_
    refine Run.one ((ok_move rfl rfl).sub (int_eq (show (g : Int) - 1 = ((g - 1 : Nat) : Int) by omega))) rfl rfl rfl ?_
    refine Run.one (ok_call rfl rfl limb_spec) rfl rfl rfl ?_
    refine Run.one (ok_move rfl rfl) rfl rfl rfl ?_
    refine Run.one ((ok_move rfl rfl).sub (int_eq (show (g : Int) - 1 = ((g - 1 : Nat) : Int) by omega))) rfl rfl rfl ?_
    refine Run.one (ok_call rfl rfl limb_spec) rfl rfl rfl ?_
    refine Run.one (ok_assign rfl rfl) rfl rfl rfl ?_
    refine Run.one (ok_assign rfl rfl) rfl rfl rfl ?_
    refine Run.nil ?_
    refine T_block ?_
    refine T_regionS ?_
    refine Run.one (ok_move rfl rfl) rfl rfl rfl ?_
    refine Run.one (ok_move rfl rfl) rfl rfl rfl ?_
    refine Run.one (ok_cmp rfl rfl rfl rfl) rfl rfl rfl ?_
    refine Run.one (ok_assign rfl rfl) rfl rfl rfl ?_
    refine Run.nil ?_
    refine T_cond rfl rfl (fun h24 => ?_) (fun h24 => ?_)
    · have k24 := of_decide_eq_true h24
      refine T_regionS ?_
      refine Run.one (ok_assign rfl rfl) rfl rfl rfl ?_
      refine Run.nil ?_
      refine T_exit ?_
      refine T_regionS ?_
      refine Run.one (ok_move rfl rfl) rfl rfl rfl ?_
      refine Run.one (ok_assign rfl rfl) rfl rfl rfl ?_
      refine Run.nil ?_
      refine T_ret ?_
      exact ⟨_, [], .one (.tmp rfl), List.nil_sublist _, by
        have := cmp_at hm.lim (i := g - 1) (n := max a.length b.length) (by omega) (by omega) (by omega) (fun j h1 h2 => hz j (by omega) h2) (by omega)
        rw [hm.val, hn.val] at this
        unfold tri; rw [if_pos this], rfl⟩
    · have k24 := of_decide_eq_false h24
      refine T_regionS ?_
      refine Run.one (ok_move rfl rfl) rfl rfl rfl ?_
      refine Run.one (ok_move rfl rfl) rfl rfl rfl ?_
      refine Run.one (ok_cmp rfl rfl rfl rfl) rfl rfl rfl ?_
      refine Run.one (ok_assign rfl rfl) rfl rfl rfl ?_
      refine Run.nil ?_
      refine T_cond rfl rfl (fun h28 => ?_) (fun h28 => ?_)
      · have k28 := of_decide_eq_true h28
        refine T_regionS ?_
        refine Run.one (ok_assign rfl rfl) rfl rfl rfl ?_
        refine Run.nil ?_
        refine T_exit ?_
        refine T_regionS ?_
        refine Run.one (ok_move rfl rfl) rfl rfl rfl ?_
        refine Run.one (ok_assign rfl rfl) rfl rfl rfl ?_
        refine Run.nil ?_
        refine T_ret ?_
        exact ⟨_, [], .one (.tmp rfl), List.nil_sublist _, by
          have := cmp_at hn.lim (a := b) (b := a) (i := g - 1) (n := max a.length b.length) (by omega) (by omega) (by omega) (fun j h1 h2 => (hz j (by omega) h2).symm) (by omega)
          rw [hm.val, hn.val] at this
          unfold tri; rw [if_neg (by omega), if_pos this], rfl⟩
      · have k28 := of_decide_eq_false h28
        refine T_skip ?_
        refine T_region ?_
        refine Run.one (ok_move rfl rfl) rfl rfl rfl ?_
        refine Run.one (ok_ari rfl rfl rfl rfl (wrap_i64 (by omega) (by omega))) rfl rfl rfl ?_
        refine Run.one (ok_assign rfl rfl) rfl rfl rfl ?_
        refine Run.nil ?_
        exact ⟨g - 1, ⟨by omega, fun j h1 h2 => by by_cases h : g ≤ j; exact hz j h h2; rw [show j = g - 1 by omega]; omega⟩, by omega, ent_g (subG_as rfl (congrArg (intS .i64) (by omega)) (subG_cons rfl (subG_cons rfl (subG_cons rfl trivial))))⟩
  · have k15 := of_decide_eq_false h15
    refine T_exit ?_
    refine T_regionS ?_
    refine Run.one (ok_move rfl rfl) rfl rfl rfl ?_
    refine Run.one (ok_assign rfl rfl) rfl rfl rfl ?_
    refine Run.nil ?_
    refine T_ret ?_
    exact ⟨_, [], .one (.tmp rfl), List.nil_sublist _, by
      have := val_eq_of (a := a) (b := b) (n := max a.length b.length) (by omega) (by omega) (fun j h => hz j (by omega) h)
      rw [hm.val, hn.val] at this
      unfold tri; rw [if_neg (by omega), if_neg (by omega)], rfl⟩
theorem of_spec {n : Nat} (h : n < 18446744073709551616) : PSpec Tryz.prog G 99 [intS .u64 n] (natS (dig n)) := by
  refine fn_spec Tryz.func99 rfl rfl rfl ?_
  refine T_regionS ?_
  refine Run.one (ok_assign rfl rfl) rfl rfl rfl ?_
  refine Run.nil ?_
  refine T_regionS ?_
  refine Run.one (ok_move rfl rfl) rfl rfl rfl ?_
  refine Run.one (ok_conv (z := ((n % 4294967296 : Nat) : Int)) rfl rfl wrap_u32_mod) rfl rfl rfl ?_
  refine Run.one (ok_move rfl rfl) rfl rfl rfl ?_
  refine Run.one (ok_shr rfl rfl rfl (by omega) (by simp [IntKind.bits])) rfl rfl rfl ?_
  refine Run.one (ok_conv (z := ((n / 4294967296 : Nat) : Int)) rfl rfl ((wrap_u32 (by simp; omega) (by simp; omega)).trans (by simp))) rfl rfl rfl ?_
  refine Run.one (ok_buildNat [n % 4294967296, n / 4294967296] rfl rfl (by decide) rfl (by simp) rfl rfl rfl) rfl rfl rfl ?_
  have : IsNat [n % 4294967296, n / 4294967296] n := ⟨lim_cons (by omega) (lim_cons (by omega) lim_nil), by simp [val]; omega⟩
  refine Run.one (ok_call rfl rfl (trim_spec (by simp [cap]))) rfl rfl rfl ?_
  refine Run.one (ok_assign rfl rfl) rfl rfl rfl ?_
  refine Run.nil ?_
  refine T_ret ?_
  exact ⟨_, [], .one (.tmp rfl), List.nil_sublist _, rfl, rfl⟩
theorem small_spec {l : List Nat} {n : Nat} [hn : IsNat l n] : PSpec Tryz.prog G 113 [natS l] (tupS [intS .u64 (if n < 18446744073709551616 then (n : Int) else 0), boolS (decide (n < 18446744073709551616))]) := by
  refine fn_spec Tryz.func113 rfl rfl rfl ?_
  refine T_len 0 rfl fun hl => ?_
  unfold big at hl
  refine T_regionS ?_
  refine Run.one (ok_assign rfl rfl) rfl rfl rfl ?_
  refine Run.one (ok_assign rfl rfl) rfl rfl rfl ?_
  refine Run.nil ?_
  refine T_seq ?_
  refine T_regionS ?_
  refine Run.one (ok_move rfl rfl) rfl rfl rfl ?_
  refine Run.one (ok_len rfl rfl) rfl rfl rfl ?_
  refine Run.one (ok_move rfl rfl) rfl rfl rfl ?_
  refine Run.nil ?_
  refine T_block ?_
  refine T_loop (γ := Nat) (fun g => ⟨_, [(8, intS .i64 g), (7, intS .i64 l.length), (6, natS l), (0, natS l)], [], [], (0, false)⟩) (fun g => g ≤ l.length ∧ ∀ j, 1 < j → j < g → limb l j = 0) (fun g => l.length - g) 0 ⟨Nat.zero_le _, fun j h1 h2 => by omega⟩ (ent_g (subG_cons rfl (subG_cons rfl (subG_cons rfl (subG_cons rfl trivial))))) ?_
  rintro g ⟨hg, hz⟩
  refine T_regionS ?_
  refine Run.one (ok_cmp rfl rfl rfl rfl) rfl rfl rfl ?_
  refine Run.nil ?_
  refine T_seq ?_
  refine T_cond rfl rfl (fun h9 => ?_) (fun h9 => ?_)
  · have k9 := of_decide_eq_true h9
    refine T_skip ?_
    refine T_seq ?_
    refine T_block ?_
    refine T_regionS ?_
    refine Run.one (ok_move rfl rfl) rfl rfl rfl ?_
    refine Run.one (ok_indexAddr rfl rfl rfl (by omega) (y := limb l g) (limb_get (by omega))) rfl rfl rfl ?_
    refine Run.one (ok_load rfl rfl) rfl rfl rfl ?_
    refine Run.one (ok_assign rfl rfl) rfl rfl rfl ?_
    refine Run.one (ok_assign rfl rfl) rfl rfl rfl ?_
    refine Run.nil ?_
    refine T_regionS ?_
    refine Run.one (ok_move rfl rfl) rfl rfl rfl ?_
    refine Run.oneB (ok_cmp rfl rfl rfl rfl) rfl rfl rfl (fun h4_1 => ?_) (fun h4_1 => ?_)
    · have k4_1 := of_decide_eq_true h4_1
      refine Run.one (ok_move rfl rfl) rfl rfl rfl ?_
      refine Run.one (ok_move rfl rfl) ⟨_, _, rfl, rfl, rfl⟩ rfl rfl ?_
      refine Run.one (ok_cmp rfl rfl rfl rfl) ⟨_, _, rfl, rfl, rfl⟩ rfl rfl ?_
      refine Run.one (ok_pick rfl rfl rfl) rfl rfl rfl ?_
      refine Run.nil ?_
      refine T_cond rfl rfl (fun h18 => ?_) (fun h18 => ?_)
      · have k18 := bne_iff_ne.1 h18
        refine T_regionS ?_
        refine Run.one (ok_assign rfl rfl) rfl rfl rfl ?_
        refine Run.one (ok_assign rfl rfl) rfl rfl rfl ?_
        refine Run.nil ?_
        refine T_ret ?_
        exact ⟨_, [], .many (.cons (.tmp rfl) (.cons (.tmp rfl) (.nil))), List.nil_sublist _, by rw [if_neg (small_not hn.lim hn.val (j := g) (by omega) (by omega)), decide_eq_false (small_not hn.lim hn.val (j := g) (by omega) (by omega))], rfl⟩
      · have k18 := bne_eq_false_iff_eq.1 h18
        refine T_skip ?_
        refine T_region ?_
        refine Run.one (ok_ari rfl rfl rfl rfl (wrap_i64 (by omega) (by omega))) rfl rfl rfl ?_
        refine Run.one (ok_move rfl rfl) rfl rfl rfl ?_
        refine Run.nil ?_
        exact ⟨g + 1, ⟨by omega, fun j h1 h2 => by by_cases h : j < g; exact hz j h1 h; rw [show j = g by omega]; omega⟩, by omega, ent_g (subG_cons rfl (subG_cons rfl (subG_cons rfl (subG_cons rfl trivial))))⟩
    · have k4_1 := of_decide_eq_false h4_1
      refine Run.one (ok_move rfl rfl) rfl rfl rfl ?_
      refine Run.no ⟨_, _, rfl, rfl, rfl⟩ rfl rfl ?_
      refine Run.no ⟨_, _, rfl, rfl, rfl⟩ rfl rfl ?_
      refine Run.one (ok_pick rfl rfl rfl) rfl rfl rfl ?_
      refine Run.nil ?_
      refine T_condF rfl rfl ?_
      refine T_skip ?_
      refine T_region ?_
      refine Run.one (ok_ari rfl rfl rfl rfl (wrap_i64 (by omega) (by omega))) rfl rfl rfl ?_
      refine Run.one (ok_move rfl rfl) rfl rfl rfl ?_
      refine Run.nil ?_
      exact ⟨g + 1, ⟨by omega, fun j h1 h2 => by by_cases h : j < g; exact hz j h1 h; omega⟩, by omega, ent_g (subG_cons rfl (subG_cons rfl (subG_cons rfl (subG_cons rfl trivial))))⟩
  · have k9 := of_decide_eq_false h9
    have hs := small_is hn.lim hn.val (fun j h1 => by by_cases h : j < g; exact hz j h1 h; exact limb_out (by omega))
    have h1 := limb_lt hn.lim 1
    have h0 := limb_lt hn.lim 0
    refine T_exit ?_
    refine T_regionS ?_
    refine Run.one (ok_move rfl rfl) rfl rfl rfl ?_
    refine Run.one (ok_call rfl rfl (limb_spec (i := 1))) rfl rfl rfl ?_
    refine Run.one (ok_conv rfl rfl (wrap_u64 (by omega) (by omega))) rfl rfl rfl ?_
    refine Run.one ((ok_shl rfl rfl rfl (by omega) (by simp [IntKind.bits])).sub (int_eq (n := ((4294967296 * limb l 1 : Nat) : Int)) ((wrap_u64 (by simp; omega) (by simp; omega)).trans (by simp; omega)))) rfl rfl rfl ?_
    refine Run.one (ok_move rfl rfl) rfl rfl rfl ?_
    refine Run.one (ok_call rfl rfl (limb_spec (i := 0))) rfl rfl rfl ?_
    refine Run.one (ok_conv rfl rfl (wrap_u64 (by omega) (by omega))) rfl rfl rfl ?_
    refine Run.one ((ok_bits rfl (by simp) rfl rfl).sub (int_eq (n := (n : Int)) (by rw [bitI_or (by omega) (by omega), or_high h0]; omega))) rfl rfl rfl ?_
    refine Run.one (ok_assign rfl rfl) rfl rfl rfl ?_
    refine Run.one (ok_assign rfl rfl) rfl rfl rfl ?_
    refine Run.nil ?_
    refine T_ret ?_
    exact ⟨_, [], .many (.cons (.tmp rfl) (.cons (.tmp rfl) (.nil))), List.nil_sublist _, by rw [if_pos hs.2, decide_eq_true hs.2], rfl⟩
theorem pairs1_spec {a b : List Nat} (ha : Lim a) (hb : Lim b) : IterSpec Tryz.prog G 129 [ptrS [natS a], ptrS [natS b]] (pairsX a b) := by
  refine iter_spec Tryz.func129 rfl rfl rfl rfl fun l E hy => ?_
  refine T_regionS ?_
  refine Run.one (ok_load rfl rfl) rfl rfl rfl ?_
  refine Run.one (ok_len rfl rfl) rfl rfl rfl ?_
  refine Run.one (ok_load rfl rfl) rfl rfl rfl ?_
  refine Run.one (ok_len rfl rfl) rfl rfl rfl ?_
  refine Run.one (ok_max rfl rfl rfl) rfl rfl rfl ?_
  refine Run.one (ok_move rfl rfl) rfl rfl rfl ?_
  refine Run.nil ?_
  refine T_block ?_
  refine T_len 5 rfl fun la => T_len 7 rfl fun lb => ?_
  unfold big at la lb
  refine T_loop (γ := Nat) (fun g => ⟨_, [(10, intS .i64 g), (9, intS .i64 ((max a.length b.length : Nat) : Int)), (0, yieldS l), (1, ptrS [natS a]), (2, ptrS [natS b])], [], [], (g, false)⟩) (fun g => g ≤ max a.length b.length) (fun g => max a.length b.length - g) 0 (Nat.zero_le _) (ent_g (subG_cons rfl (subG_as rfl (congrArg (intS .i64) (by omega)) (subG_cons rfl (subG_cons rfl (subG_cons rfl trivial)))))) ?_
  intro g hg
  refine T_regionS ?_
  refine Run.one (ok_cmp rfl rfl rfl rfl) rfl rfl rfl ?_
  refine Run.nil ?_
  refine T_seq ?_
  refine T_cond rfl rfl (fun h11 => ?_) (fun h11 => ?_)
  · have k11 := of_decide_eq_true h11
    have h1 := limb_lt ha g
    have h2 := limb_lt hb g
    refine T_skip ?_
    refine T_seq ?_
    refine T_block ?_
    refine T_regionS ?_
    refine Run.one (ok_move rfl rfl) rfl rfl rfl ?_
    refine Run.one (ok_assign rfl rfl) rfl rfl rfl ?_
    refine Run.nil ?_
    refine T_drawS 9 (by kernel_rfl) ?_
    refine Run.one (ok_move rfl rfl) rfl rfl rfl ?_
    refine Run.one (ok_load rfl rfl) rfl rfl rfl ?_
    refine Run.one (ok_move rfl rfl) rfl rfl rfl ?_
    refine Run.one (ok_call rfl rfl limb_spec) rfl rfl rfl ?_
    refine Run.one (ok_conv rfl rfl (wrap_u64 (by omega) (by omega))) rfl rfl rfl ?_
    refine Run.one (ok_load rfl rfl) rfl rfl rfl ?_
    refine Run.one (ok_move rfl rfl) rfl rfl rfl ?_
    refine Run.one (ok_call rfl rfl limb_spec) rfl rfl rfl ?_
    refine Run.one (ok_conv rfl rfl (wrap_u64 (by omega) (by omega))) rfl rfl rfl ?_
    refine Run.nil ?_
    refine Run.yield rfl hy rfl rfl rfl (pairsX_get (by omega)) (subL_refl _) rfl rfl rfl fun y => ?_
    refine Run.one (ok_not rfl rfl) rfl rfl rfl ?_
    refine Run.nil ?_
    refine T_cond rfl rfl (fun h23 => ?_) (fun h23 => ?_)
    · refine T_ret ?_
      exact ⟨.inl rfl, .inr h23⟩
    · refine T_skip ?_
      refine T_region ?_
      refine Run.one (ok_ari rfl rfl rfl rfl (wrap_i64 (by omega) (by omega))) rfl rfl rfl ?_
      refine Run.one (ok_move rfl rfl) rfl rfl rfl ?_
      refine Run.nil ?_
      exact ⟨g + 1, (by omega : g + 1 ≤ max a.length b.length), by omega, rfl, subG_cons rfl (subG_cons rfl (subG_cons rfl (subG_cons rfl (subG_cons rfl trivial)))), subH_refl _, rfl, by rw [h23]⟩
  · have k11 := of_decide_eq_false h11
    refine T_exit ?_
    exact ⟨.inr rfl, .inl (by rw [pairsX_length, show g = max a.length b.length by omega])⟩
theorem pairs_spec {a b : List Nat} : PSpec Tryz.prog G 119 [natS a, natS b] (fnS 129 [ptrS [natS a], ptrS [natS b]]) := by
  refine fn_spec Tryz.func119 rfl rfl rfl ?_
  refine T_regionS ?_
  refine Run.one (ok_box rfl rfl) rfl rfl rfl ?_
  refine Run.one (ok_box rfl rfl) rfl rfl rfl ?_
  refine Run.one (ok_assign rfl rfl) rfl rfl rfl ?_
  refine Run.nil ?_
  refine T_regionS ?_
  refine Run.one (ok_makeFunc rfl rfl) rfl rfl rfl ?_
  refine Run.one (ok_assign rfl rfl) rfl rfl rfl ?_
  refine Run.nil ?_
  refine T_ret ?_
  exact ⟨_, [], .one (.tmp rfl), List.nil_sublist _, rfl, rfl⟩
end Go.Proofs
