/- straitref03.Div: bit by bit. -/
import Derived.Test.YtofplgefmjojjaaGreatDoorSnk
namespace Go.Proofs
open Go Go.Sv Num
variable {G : Imm}
end Go.Proofs
/- gcd: of words and of numbers, by the program and by the reference. -/
namespace Go.Proofs
open Go Go.Sv Num
variable {G : Imm}
theorem word_spec [Tab G] {a b : Nat} (ha : a < 18446744073709551616) (hb : b < 18446744073709551616) : PSpec Tryz.prog G 236 [intS .u64 (a : Nat), intS .u64 (b : Nat)] (intS .u64 (Nat.gcd a b : Nat)) := by
  refine fn_spec Tryz.func236 rfl rfl rfl ?_
  refine T_regionS ?_
  refine Run.one (ok_assign rfl rfl) rfl rfl rfl ?_
  refine Run.nil ?_
  refine T_scope ?_
  refine T_seq ?_
  refine T_regionS ?_
  refine Run.one (ok_move rfl rfl) rfl rfl rfl ?_
  refine Run.oneB (ok_cmp rfl rfl rfl rfl) rfl rfl rfl (fun h1_1 => ?_) (fun h1_1 => ?_)
  · have k1_1 := beq_iff_eq.1 h1_1
    refine Run.one (ok_move rfl rfl) rfl rfl rfl ?_
    iterate 2 refine Run.no (gB rfl rfl rfl rfl) rfl rfl ?_
    refine Run.one (ok_pick rfl rfl rfl) rfl rfl rfl ?_
    refine Run.nil ?_
    refine T_condT rfl rfl ?_
    refine T_regionS ?_
    iterate 2 refine Run.one (ok_move rfl rfl) rfl rfl rfl ?_
    refine Run.one ((ok_bits rfl (by simp) rfl rfl).sub (int_eq (n := ((Nat.gcd a b : Nat) : Int)) (by rw [bitI_or ha hb, show a = 0 by omega, Nat.zero_or, Nat.gcd_zero_left]))) rfl rfl rfl ?_
    refine Run.one (ok_assign rfl rfl) rfl rfl rfl ?_
    refine Run.nil ?_
    refine T_ret ?_
    exact ⟨_, [], .one (.tmp rfl), List.nil_sublist _, rfl, rfl⟩
  · have k1_1 := beq_eq_false_iff_ne.1 h1_1
    refine Run.one (ok_move rfl rfl) rfl rfl rfl ?_
    refine Run.one (ok_move rfl rfl) (gB rfl rfl rfl rfl) rfl rfl ?_
    refine Run.one (ok_cmp rfl rfl rfl rfl) (gB rfl rfl rfl rfl) rfl rfl ?_
    refine Run.one (ok_pick rfl rfl rfl) rfl rfl rfl ?_
    refine Run.nil ?_
    refine T_cond rfl rfl (fun h11 => ?_) (fun h11 => ?_)
    · have k11 := beq_iff_eq.1 h11
      refine T_regionS ?_
      iterate 2 refine Run.one (ok_move rfl rfl) rfl rfl rfl ?_
      refine Run.one ((ok_bits rfl (by simp) rfl rfl).sub (int_eq (n := ((Nat.gcd a b : Nat) : Int)) (by rw [bitI_or ha hb, show b = 0 by omega, Nat.or_zero, Nat.gcd_zero_right]))) rfl rfl rfl ?_
      refine Run.one (ok_assign rfl rfl) rfl rfl rfl ?_
      refine Run.nil ?_
      refine T_ret ?_
      exact ⟨_, [], .one (.tmp rfl), List.nil_sublist _, rfl, rfl⟩
    · have k11 := beq_eq_false_iff_ne.1 h11
      have ha0 : a ≠ 0 := by omega
      have hb0 : b ≠ 0 := by omega
      obtain ⟨hw1, hw2⟩ := word_gcd ha0 hb0 ha hb
      obtain ⟨_, _, hca⟩ := ctz_split ha0 ha
      obtain ⟨_, _, hco⟩ := ctz_split (x := a ||| b) (fun h => ha0 (Nat.or_eq_zero_iff.1 h).1) (Nat.or_lt_two_pow (n := 64) ha hb)
      obtain ⟨k, hk⟩ : ∃ k, k = Lib.ctz 64 (a ||| b) := ⟨_, rfl⟩
      rw [← hk] at hw1 hco
      have hgl : Nat.gcd a b < 18446744073709551616 := Nat.lt_of_le_of_lt (Nat.gcd_le_left b (Nat.pos_of_ne_zero ha0)) ha
      obtain ⟨x0, hx0⟩ : ∃ x, x = a / 2 ^ Lib.ctz 64 a := ⟨_, rfl⟩
      rw [← hx0] at hw1 hw2
      have hx1 : x0 ≤ a := by rw [hx0]; exact Nat.div_le_self _ _
      refine T_skip ?_
      refine T_regionS ?_
      iterate 2 refine Run.one (ok_move rfl rfl) rfl rfl rfl ?_
      refine Run.one ((ok_bits rfl (by simp) rfl rfl).sub (int_eq (bitI_or ha hb))) rfl rfl rfl ?_
      refine Run.one ((ok_call rfl rfl (tz64_spec (Nat.or_lt_two_pow (n := 64) ha hb))).sub (int_eq (n := ((k : Nat) : Int)) (by rw [hk]))) rfl rfl rfl ?_
      refine Run.one (ok_assign rfl rfl) rfl rfl rfl ?_
      refine Run.nil ?_
      refine T_regionS ?_
      iterate 2 refine Run.one (ok_move rfl rfl) rfl rfl rfl ?_
      refine Run.one (ok_call rfl rfl (tz64_spec ha)) rfl rfl rfl ?_
      refine Run.one ((ok_shr rfl rfl rfl (by omega) (by simp [IntKind.bits]; omega)).sub (int_eq (n := ((x0 : Nat) : Int)) ((shrN _ _).trans (by rw [hx0])))) rfl rfl rfl ?_
      refine Run.one (ok_assign rfl rfl) rfl rfl rfl ?_
      refine Run.nil ?_
      refine T_seq ?_
      refine T_label ?_
      refine T_seq ?_
      refine T_block ?_
      refine T_loop2 (fun x y => ⟨_, [(5, intS .i64 (k : Nat)), (1, intS .u64 (y : Nat)), (0, intS .u64 (x : Nat))], [], [], (0, false)⟩)
          (fun x y => x % 2 = 1 ∧ x < 18446744073709551616 ∧ y < 18446744073709551616 ∧ Nat.gcd a b = 2 ^ k * Nat.gcd x y) (fun x y => x + y)
          x0 b ⟨hw2, by omega, hb, hw1⟩ (ent_g (subG_cons rfl (subG_cons rfl (subG_cons rfl (trivial))))) ?_
      rintro x y ⟨hxo, hxl, hyl, hval⟩
      refine T_seq ?_
      refine T_regionS ?_
      refine Run.one (ok_move rfl rfl) rfl rfl rfl ?_
      refine Run.one (ok_cmp rfl rfl rfl rfl) rfl rfl rfl ?_
      refine Run.nil ?_
      refine T_cond rfl rfl (fun h24 => ?_) (fun h24 => ?_)
      · have k24 := bne_iff_ne.1 h24
        have hy0 : y ≠ 0 := by omega
        obtain ⟨hs1, hs2⟩ := gcd_shift hxo hy0 hyl
        obtain ⟨_, _, hcy⟩ := ctz_split hy0 hyl
        obtain ⟨z, hz⟩ : ∃ z, z = y / 2 ^ Lib.ctz 64 y := ⟨_, rfl⟩
        rw [← hz] at hs1 hs2
        have hz1 : z ≤ y := by rw [hz]; exact Nat.div_le_self _ _
        refine T_skip ?_
        refine T_block ?_
        refine T_regionS ?_
        iterate 2 refine Run.one (ok_move rfl rfl) rfl rfl rfl ?_
        refine Run.one (ok_call rfl rfl (tz64_spec hyl)) rfl rfl rfl ?_
        refine Run.one ((ok_shr rfl rfl rfl (by omega) (by simp [IntKind.bits]; omega)).sub (int_eq (n := ((z : Nat) : Int)) ((shrN _ _).trans (by rw [hz])))) rfl rfl rfl ?_
        refine Run.one (ok_assign rfl rfl) rfl rfl rfl ?_
        refine Run.nil ?_
        refine T_seq ?_
        refine T_regionS ?_
        iterate 2 refine Run.one (ok_move rfl rfl) rfl rfl rfl ?_
        refine Run.one (ok_cmp rfl rfl rfl rfl) rfl rfl rfl ?_
        refine Run.nil ?_
        refine T_cond rfl rfl (fun h31 => ?_) (fun h31 => ?_)
        · have k31 := of_decide_eq_true h31
          refine T_regionS ?_
          iterate 2 refine Run.one (ok_move rfl rfl) rfl rfl rfl ?_
          refine Run.one (ok_ari (z := ((z - x : Nat) : Int)) rfl rfl rfl (congrArg some (by omega)) (wrap_u64 (by omega) (by omega))) rfl rfl rfl ?_
          refine Run.one (ok_assign rfl rfl) rfl rfl rfl ?_
          refine Run.nil ?_
          refine T_exit ?_
          exact ⟨x, z - x, ⟨hxo, hxl, by omega, by rw [hval, ← hs1, Nat.gcd_sub_self_right (by omega)]⟩, by omega, ent_g (subG_cons rfl (subG_cons rfl (subG_cons rfl (trivial))))⟩
        · have k31 := of_decide_eq_false h31
          refine T_skip ?_
          refine T_region ?_
          iterate 3 refine Run.one (ok_move rfl rfl) rfl rfl rfl ?_
          refine Run.one (ok_ari (z := ((x - z : Nat) : Int)) rfl rfl rfl (congrArg some (by omega)) (wrap_u64 (by omega) (by omega))) rfl rfl rfl ?_
          iterate 2 refine Run.one (ok_assign rfl rfl) rfl rfl rfl ?_
          refine Run.nil ?_
          exact ⟨z, x - z, ⟨hs2, by omega, by omega, by rw [hval, ← hs1, Nat.gcd_sub_self_right (by omega), Nat.gcd_comm]⟩, by omega, ent_g (subG_cons rfl (subG_cons rfl (subG_cons rfl (trivial))))⟩
      · have k24 := bne_eq_false_iff_eq.1 h24
        have hy0 : y = 0 := by omega
        rw [hy0, Nat.gcd_zero_right, Nat.mul_comm] at hval
        refine T_exit ?_
        refine T_regionS ?_
        iterate 2 refine Run.one (ok_move rfl rfl) rfl rfl rfl ?_
        refine Run.one ((ok_shl rfl rfl rfl (by omega) (by simp [IntKind.bits]; omega)).sub (int_eq (n := ((Nat.gcd a b : Nat) : Int)) (by rw [shlN, ← hval]; exact wrap_u64 (by omega) (by omega)))) rfl rfl rfl ?_
        refine Run.one (ok_assign rfl rfl) rfl rfl rfl ?_
        refine Run.nil ?_
        refine T_ret ?_
        exact ⟨_, [], .one (.tmp rfl), List.nil_sublist _, rfl, rfl⟩
theorem gcd_spec [Tab G] {a b : List Nat} {m n : Nat} [hm : IsNat a m] [hn : IsNat b n] (hs : a.length + b.length + 10000 ≤ cap) : PSpec Tryz.prog G 219 [natS a, natS b] (natS (dig (Nat.gcd m n))) := by
  unfold cap at hs
  have hla : (dig m).length ≤ a.length := dig_length_le (by rw [← hm.val]; exact val_lt hm.lim)
  have hlb : (dig n).length ≤ b.length := dig_length_le (by rw [← hn.val]; exact val_lt hn.lim)
  refine fn_spec Tryz.func219 rfl rfl rfl ?_
  refine T_regionS ?_
  refine Run.one (ok_assign rfl rfl) rfl rfl rfl ?_
  refine Run.nil ?_
  refine T_regionS ?_
  refine Run.one (ok_move rfl rfl) rfl rfl rfl ?_
  refine Run.one (ok_call rfl rfl (trim_spec (by unfold cap; omega))) rfl rfl rfl ?_
  refine Run.one (ok_move rfl rfl) rfl rfl rfl ?_
  refine Run.one (ok_call rfl rfl (trim_spec (by unfold cap; omega))) rfl rfl rfl ?_
  iterate 2 refine Run.one (ok_assign rfl rfl) rfl rfl rfl ?_
  refine Run.nil ?_
  refine T_seq ?_
  refine T_block ?_
  refine T_loop2 (fun x y => ⟨_, [(1, natS (dig y)), (0, natS (dig x))], [], [], (0, false)⟩)
      (fun x y => (dig x).length ≤ a.length + b.length ∧ (dig y).length ≤ a.length + b.length ∧ Nat.gcd x y = Nat.gcd m n) (fun x y => y)
      m n ⟨by omega, by omega, rfl⟩ (ent_g (subG_cons rfl (subG_cons rfl (trivial)))) ?_
  rintro x y ⟨hxl, hyl, hval⟩
  refine T_seq ?_
  refine T_regionS ?_
  refine Run.one (ok_move rfl rfl) rfl rfl rfl ?_
  refine Run.one (ok_len rfl rfl) rfl rfl rfl ?_
  refine Run.one (ok_cmp rfl rfl rfl rfl) rfl rfl rfl ?_
  refine Run.nil ?_
  refine T_cond rfl rfl (fun h18 => ?_) (fun h18 => ?_)
  · have k18 := of_decide_eq_true h18
    have hy0 : y ≠ 0 := fun h => by rw [h, dig_zero] at k18; simp at k18
    have hyp := Nat.pos_of_ne_zero hy0
    have hml := Nat.mod_lt x hyp
    refine T_skip ?_
    refine T_block ?_
    refine T_regionS ?_
    refine Run.one (ok_move rfl rfl) rfl rfl rfl ?_
    refine Run.one (ok_call rfl rfl small_spec) rfl rfl rfl ?_
    refine Run.one (ok_move rfl rfl) rfl rfl rfl ?_
    iterate 2 refine Run.one (ok_extract rfl rfl rfl) rfl rfl rfl ?_
    iterate 2 refine Run.one (ok_assign rfl rfl) rfl rfl rfl ?_
    refine Run.nil ?_
    refine T_regionS ?_
    refine Run.one (ok_move rfl rfl) rfl rfl rfl ?_
    refine Run.one (ok_call rfl rfl small_spec) rfl rfl rfl ?_
    refine Run.one (ok_move rfl rfl) rfl rfl rfl ?_
    iterate 2 refine Run.one (ok_extract rfl rfl rfl) rfl rfl rfl ?_
    iterate 2 refine Run.one (ok_assign rfl rfl) rfl rfl rfl ?_
    refine Run.nil ?_
    refine T_seqQ (K := fun S1 => Ent S1 (⟨47, [(1, natS (dig y)), (0, natS (dig x))], [], [], (0, false)⟩)) ?_ ?_
    · refine T_regionS ?_
      refine Run.oneB (ok_move rfl rfl) rfl rfl rfl (fun h5_0 => ?_) (fun h5_0 => ?_)
      · refine Run.one (ok_move rfl rfl) rfl rfl rfl ?_
        refine Run.one (ok_move rfl rfl) (gB rfl rfl rfl rfl) rfl rfl ?_
        refine Run.one (ok_pick rfl rfl rfl) rfl rfl rfl ?_
        refine Run.nil ?_
        refine T_cond rfl rfl (fun h32 => ?_) (fun h32 => ?_)
        · refine T_regionS ?_
          refine Run.one ((ok_move rfl rfl).sub (int_eq (n := ((x : Nat) : Int)) (if_pos (of_decide_eq_true h5_0)))) rfl rfl rfl ?_
          refine Run.one ((ok_move rfl rfl).sub (int_eq (n := ((y : Nat) : Int)) (if_pos (of_decide_eq_true h32)))) rfl rfl rfl ?_
          refine Run.one (ok_call rfl rfl (word_spec (of_decide_eq_true h5_0) (of_decide_eq_true h32))) rfl rfl rfl ?_
          refine Run.one (ok_call rfl rfl (of_spec (Nat.lt_of_le_of_lt (Nat.gcd_le_right x hyp) (of_decide_eq_true h32)))) rfl rfl rfl ?_
          refine Run.one (ok_assign rfl rfl) rfl rfl rfl ?_
          refine Run.nil ?_
          refine T_ret ?_
          exact ⟨_, [], .one (.tmp rfl), List.nil_sublist _, by rw [hval], rfl⟩
        · refine T_skip ?_
          exact ent_g (subG_cons rfl (subG_cons rfl (trivial)))
      · refine Run.one (ok_move rfl rfl) rfl rfl rfl ?_
        refine Run.no (gB rfl rfl rfl rfl) rfl rfl ?_
        refine Run.one (ok_pick rfl rfl rfl) rfl rfl rfl ?_
        refine Run.nil ?_
        refine T_condF rfl rfl ?_
        refine T_skip ?_
        exact ent_g (subG_cons rfl (subG_cons rfl (trivial)))
    · intro S1 hS1
      refine T_pre hS1 ?_
      refine T_regionS ?_
      iterate 2 refine Run.one (ok_move rfl rfl) rfl rfl rfl ?_
      refine Run.one (ok_call rfl rfl (div_spec (by unfold cap; omega) (by unfold cap; omega))) rfl rfl rfl ?_
      refine Run.one (ok_move rfl rfl) rfl rfl rfl ?_
      refine Run.one (ok_extract rfl rfl rfl) rfl rfl rfl ?_
      refine Run.one ((ok_extract rfl rfl rfl).sub (show ∀ I v, (natS (dig (if y = 0 then 0 else x % y))).den I v → (natS (dig (x % y))).den I v from fun I v h => by rw [if_neg hy0] at h; exact h)) rfl rfl rfl ?_
      refine Run.one (ok_extract rfl rfl rfl) rfl rfl rfl ?_
      iterate 3 refine Run.one (ok_assign rfl rfl) rfl rfl rfl ?_
      refine Run.nil ?_
      refine T_region ?_
      iterate 2 refine Run.one (ok_move rfl rfl) rfl rfl rfl ?_
      iterate 2 refine Run.one (ok_assign rfl rfl) rfl rfl rfl ?_
      refine Run.nil ?_
      exact ⟨y, x % y, ⟨hyl, Nat.le_trans (dig_length_le (Nat.lt_trans hml (lt_of_dig_length (Nat.le_refl _)))) hyl, by rw [Nat.gcd_comm, ← Nat.gcd_rec, Nat.gcd_comm, hval]⟩, hml, ent_g (subG_cons rfl (subG_cons rfl (trivial)))⟩
  · have k18 := of_decide_eq_false h18
    have hy0 : y = 0 := dig_len_zero.1 (by omega)
    rw [hy0, Nat.gcd_zero_right] at hval
    refine T_exit ?_
    refine T_regionS ?_
    refine Run.one (ok_move rfl rfl) rfl rfl rfl ?_
    refine Run.one (ok_assign rfl rfl) rfl rfl rfl ?_
    refine Run.nil ?_
    refine T_ret ?_
    exact ⟨_, [], .one (.tmp rfl), List.nil_sublist _, by rw [hval], rfl⟩
theorem by1_spec {a g : List Nat} {m n : Nat} [hm : IsNat a m] [hn : IsNat g n] (hs : a.length + 10000 ≤ cap) (hs2 : g.length + 10000 ≤ cap) : PSpec Tryz.prog G 238 [natS a, ptrS [natS g]] (natS (dig (m / n))) := by
  refine fn_spec Tryz.func238 rfl rfl rfl ?_
  refine T_regionS ?_
  refine Run.one (ok_assign rfl rfl) rfl rfl rfl ?_
  refine Run.nil ?_
  refine T_regionS ?_
  refine Run.one (ok_move rfl rfl) rfl rfl rfl ?_
  refine Run.one (ok_load rfl rfl) rfl rfl rfl ?_
  refine Run.one (ok_call rfl rfl (div_spec hs hs2)) rfl rfl rfl ?_
  refine Run.one (ok_move rfl rfl) rfl rfl rfl ?_
  iterate 3 refine Run.one (ok_extract rfl rfl rfl) rfl rfl rfl ?_
  iterate 3 refine Run.one (ok_assign rfl rfl) rfl rfl rfl ?_
  refine Run.nil ?_
  refine T_regionS ?_
  refine Run.one (ok_move rfl rfl) rfl rfl rfl ?_
  refine Run.one (ok_assign rfl rfl) rfl rfl rfl ?_
  refine Run.nil ?_
  refine T_ret ?_
  exact ⟨_, [], .one (.tmp rfl), List.nil_sublist _, rfl, rfl⟩
theorem by_spec {g : List Nat} : PSpec Tryz.prog G 220 [natS g] (fnS 238 [ptrS [natS g]]) := by
  refine fn_spec Tryz.func220 rfl rfl rfl ?_
  refine T_regionS ?_
  refine Run.one (ok_box rfl rfl) rfl rfl rfl ?_
  refine Run.one (ok_assign rfl rfl) rfl rfl rfl ?_
  refine Run.nil ?_
  refine T_regionS ?_
  refine Run.one (ok_makeFunc rfl rfl) rfl rfl rfl ?_
  refine Run.one (ok_assign rfl rfl) rfl rfl rfl ?_
  refine Run.nil ?_
  refine T_ret ?_
  exact ⟨_, [], .one (.tmp rfl), List.nil_sublist _, rfl, rfl⟩
theorem reduce_spec [Tab G] {a b : List Nat} {m n : Nat} [hm : IsNat a m] [hn : IsNat b n] (hs : a.length + b.length + 10000 ≤ cap) : PSpec Tryz.prog G 190 [natS a, natS b] (tupS [natS (dig (m / Nat.gcd m n)), natS (dig (n / Nat.gcd m n))]) := by
  have hgl : (dig (Nat.gcd m n)).length ≤ a.length + b.length := by
    rcases Nat.eq_zero_or_pos m with h | h
    · rw [h, Nat.gcd_zero_left]; exact Nat.le_trans (dig_length_le (by rw [← hn.val]; exact val_lt hn.lim)) (Nat.le_add_left _ _)
    · exact Nat.le_trans (dig_length_le (Nat.lt_of_le_of_lt (Nat.gcd_le_left n h) (by rw [← hm.val]; exact val_lt hm.lim))) (Nat.le_add_right _ _)
  have hs0 := hs
  unfold cap at hs
  refine fn_spec Tryz.func190 rfl rfl rfl ?_
  refine T_regionS ?_
  iterate 2 refine Run.one (ok_assign rfl rfl) rfl rfl rfl ?_
  refine Run.nil ?_
  refine T_regionS ?_
  iterate 2 refine Run.one (ok_move rfl rfl) rfl rfl rfl ?_
  refine Run.one (ok_call rfl rfl (gcd_spec hs0)) rfl rfl rfl ?_
  refine Run.one (ok_assign rfl rfl) rfl rfl rfl ?_
  refine Run.nil ?_
  refine T_seq ?_
  refine T_regionS ?_
  refine Run.one (ok_move rfl rfl) rfl rfl rfl ?_
  refine Run.one (ok_len rfl rfl) rfl rfl rfl ?_
  refine Run.one (ok_cmp rfl rfl rfl rfl) rfl rfl rfl ?_
  refine Run.nil ?_
  refine T_cond rfl rfl (fun h13 => ?_) (fun h13 => ?_)
  · have k13 := beq_iff_eq.1 h13
    have hg0 : Nat.gcd m n = 0 := dig_len_zero.1 (by omega)
    refine T_regionS ?_
    refine Run.one ((ok_assign rfl rfl).sub (nil_nat (l := dig (m / Nat.gcd m n)) (by rw [hg0, Nat.div_zero, dig_zero]))) rfl rfl rfl ?_
    refine Run.one ((ok_assign rfl rfl).sub (nil_nat (l := dig (n / Nat.gcd m n)) (by rw [hg0, Nat.div_zero, dig_zero]))) rfl rfl rfl ?_
    refine Run.nil ?_
    refine T_ret ?_
    exact ⟨_, [], .many (.cons (.tmp rfl) (.cons (.tmp rfl) (.nil))), List.nil_sublist _, rfl, rfl⟩
  · have k13 := beq_eq_false_iff_ne.1 h13
    refine T_skip ?_
    refine T_regionS ?_
    refine Run.one (ok_move rfl rfl) rfl rfl rfl ?_
    refine Run.one (ok_call rfl rfl by_spec) rfl rfl rfl ?_
    refine Run.one (ok_assign rfl rfl) rfl rfl rfl ?_
    refine Run.nil ?_
    refine T_regionS ?_
    iterate 2 refine Run.one (ok_move rfl rfl) rfl rfl rfl ?_
    refine Run.one (ok_callV rfl rfl rfl (by1_spec (by unfold cap; omega) (by unfold cap; omega))) rfl rfl rfl ?_
    iterate 2 refine Run.one (ok_move rfl rfl) rfl rfl rfl ?_
    refine Run.one (ok_callV rfl rfl rfl (by1_spec (by unfold cap; omega) (by unfold cap; omega))) rfl rfl rfl ?_
    iterate 2 refine Run.one (ok_assign rfl rfl) rfl rfl rfl ?_
    refine Run.nil ?_
    refine T_ret ?_
    exact ⟨_, [], .many (.cons (.tmp rfl) (.cons (.tmp rfl) (.nil))), List.nil_sublist _, rfl, rfl⟩
end Go.Proofs
