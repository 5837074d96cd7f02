/- bits: Len32, LeadingZeros32, TrailingZeros64. -/
import Derived.Test.YtijnlobgmfmhjaaGreatDoorSni
namespace Go.Proofs
open Go Go.Sv Num
variable {G : Imm}
theorem shr16 (m : Nat) : (m : Int) / 2 ^ (16 : Int).toNat = ((m / 65536 : Nat) : Int) := by simp
theorem shr8 (m : Nat) : (m : Int) / 2 ^ (8 : Int).toNat = ((m / 256 : Nat) : Int) := by simp
theorem shr58 (m : Nat) : (m : Int) / 2 ^ (58 : Int).toNat = ((m / 288230376151711744 : Nat) : Int) := by simp
theorem ok_len8 {P : Program} {H : HL} {o : Oper} {g : List (Nat × SV)} {t : TypeId} [IsStr P t] {x ix : Operand} {k : IntKind} {i : Nat} (hop : o.op = .index t x ix) (hx : opE g x = some (eqS (.string Lib.len8tab))) (hi : opE g ix = some (intS k i)) (h : i < 256) : OpOK P G H o g (intS .u8 (Lib.bitLen i : Nat)) := by
  obtain ⟨h1, h2⟩ := len8_get h
  rw [← h2]; exact ok_indexStr hop hx hi h1
theorem bitLen_spec : ∀ (f x : Nat), x < 2 ^ f → f ≤ 64 → x < 2 ^ Lib.bitLen x ∧ (x ≠ 0 → 0 < Lib.bitLen x ∧ 2 ^ (Lib.bitLen x - 1) ≤ x) ∧ Lib.bitLen x ≤ f
  | 0, x, h, _ => by
    have : x = 0 := by simpa using h
    subst this
    exact ⟨by decide, fun h => absurd rfl h, by decide⟩
  | f + 1, x, h, hf => by
    by_cases h0 : x = 0
    · subst h0; exact ⟨by decide, fun h => absurd rfl h, by rw [show Lib.bitLen 0 = 0 by decide]; omega⟩
    · have h64 : x < 2 ^ 64 := Nat.lt_of_lt_of_le h (Nat.pow_le_pow_right (by omega) hf)
      have hh := Lib.bitLen_half x h0 h64
      obtain ⟨i1, i2, i3⟩ := bitLen_spec f (x / 2) (by rw [Nat.pow_succ] at h; omega) (by omega)
      rw [hh]
      refine ⟨by rw [Nat.add_comm, Nat.pow_succ]; omega, fun _ => ⟨by omega, ?_⟩, by omega⟩
      rw [Nat.add_sub_cancel_left]
      by_cases h2 : x / 2 = 0
      · rw [h2, show Lib.bitLen 0 = 0 by decide]; simp; omega
      · obtain ⟨j1, j2⟩ := i2 h2
        have : 2 ^ Lib.bitLen (x / 2) = 2 ^ (Lib.bitLen (x / 2) - 1) * 2 := by rw [← Nat.pow_succ, Nat.succ_eq_add_one, show Lib.bitLen (x / 2) - 1 + 1 = Lib.bitLen (x / 2) by omega]
        omega
theorem tab_get {i : Nat} (h : i < 64) : tabV[i]? = some (.int .u8 (Lib.deBruijn64tab.getD i 0 : Nat)) := by
  have hl : i < Lib.deBruijn64tab.length := h
  simp [tabV, List.getD_eq_getElem?_getD, hl]
theorem len32_spec {x : Nat} (hx : x < 4294967296) : PSpec Tryz.prog G 131 [intS .u32 x] (intS .i64 (Lib.bitLen x : Nat)) := by
  refine fn_spec Tryz.func131 rfl rfl rfl ?_
  refine T_regionS ?_
  refine Run.one (ok_assign rfl rfl) rfl rfl rfl ?_
  refine Run.nil ?_
  refine T_seq ?_
  refine T_regionS ?_
  refine Run.one (ok_move rfl rfl) rfl rfl rfl ?_
  refine Run.one (ok_cmp rfl rfl rfl rfl) rfl rfl rfl ?_
  refine Run.nil ?_
  refine T_cond rfl rfl (fun h4 => ?_) (fun h4 => ?_)
  · have k4 := of_decide_eq_true h4
    refine T_regionS ?_
    refine Run.one (ok_move rfl rfl) rfl rfl rfl ?_
    refine Run.one ((ok_shr rfl rfl rfl (by omega) (by simp [IntKind.bits])).sub (int_eq (shr16 _))) rfl rfl rfl ?_
    refine Run.one (ok_assign rfl rfl) rfl rfl rfl ?_
    refine Run.nil ?_
    refine T_region ?_
    refine Run.one (ok_assign rfl rfl) rfl rfl rfl ?_
    refine Run.nil ?_
    refine T_seq ?_
    refine T_regionS ?_
    refine Run.one (ok_move rfl rfl) rfl rfl rfl ?_
    refine Run.one (ok_cmp rfl rfl rfl rfl) rfl rfl rfl ?_
    refine Run.nil ?_
    refine T_cond rfl rfl (fun h8 => ?_) (fun h8 => ?_)
    · have k8 := of_decide_eq_true h8
      refine T_regionS ?_
      refine Run.one (ok_move rfl rfl) rfl rfl rfl ?_
      refine Run.one ((ok_shr rfl rfl rfl (by omega) (by simp [IntKind.bits])).sub (int_eq (shr8 _))) rfl rfl rfl ?_
      refine Run.one (ok_assign rfl rfl) rfl rfl rfl ?_
      refine Run.nil ?_
      refine T_region ?_
      refine Run.one (ok_move rfl rfl) rfl rfl rfl ?_
      refine Run.one (ok_ari rfl rfl rfl rfl (wrap_i64 (by omega) (by omega))) rfl rfl rfl ?_
      refine Run.one (ok_assign rfl rfl) rfl rfl rfl ?_
      refine Run.nil ?_
      refine T_regionS ?_
      refine Run.one (ok_move rfl rfl) rfl rfl rfl ?_
      refine Run.one (ok_move rfl rfl) rfl rfl rfl ?_
      refine Run.one (ok_conv rfl rfl (wrap_u8 (by omega) (by omega))) rfl rfl rfl ?_
      have hb := bitLen_small (x := x / 65536 / 256) (by omega)
      have e1 := Lib.bitLen_shift16 x (by omega) (by omega)
      have e2 := Lib.bitLen_shift8 (x / 65536) (by omega) (by omega)
      refine Run.one (ok_len8 rfl rfl rfl (by omega)) rfl rfl rfl ?_
      refine Run.one (ok_conv rfl rfl (wrap_i64 (by omega) (by omega))) rfl rfl rfl ?_
      refine Run.one (ok_ari (z := ((Lib.bitLen x : Nat) : Int)) rfl rfl rfl (congrArg some (by omega)) (wrap_i64 (by omega) (by omega))) rfl rfl rfl ?_
      refine Run.one (ok_assign rfl rfl) rfl rfl rfl ?_
      refine Run.nil ?_
      refine T_ret ?_
      exact ⟨_, [], .one (.tmp rfl), List.nil_sublist _, rfl, rfl⟩
    · have k8 := of_decide_eq_false h8
      refine T_skip ?_
      refine T_regionS ?_
      refine Run.one (ok_move rfl rfl) rfl rfl rfl ?_
      refine Run.one (ok_move rfl rfl) rfl rfl rfl ?_
      refine Run.one (ok_conv rfl rfl (wrap_u8 (by omega) (by omega))) rfl rfl rfl ?_
      have hb := bitLen_small (x := x / 65536) (by omega)
      have e1 := Lib.bitLen_shift16 x (by omega) (by omega)
      refine Run.one (ok_len8 rfl rfl rfl (by omega)) rfl rfl rfl ?_
      refine Run.one (ok_conv rfl rfl (wrap_i64 (by omega) (by omega))) rfl rfl rfl ?_
      refine Run.one (ok_ari (z := ((Lib.bitLen x : Nat) : Int)) rfl rfl rfl (congrArg some (by omega)) (wrap_i64 (by omega) (by omega))) rfl rfl rfl ?_
      refine Run.one (ok_assign rfl rfl) rfl rfl rfl ?_
      refine Run.nil ?_
      refine T_ret ?_
      exact ⟨_, [], .one (.tmp rfl), List.nil_sublist _, rfl, rfl⟩
  · have k4 := of_decide_eq_false h4
    refine T_skip ?_
    refine T_seq ?_
    refine T_regionS ?_
    refine Run.one (ok_move rfl rfl) rfl rfl rfl ?_
    refine Run.one (ok_cmp rfl rfl rfl rfl) rfl rfl rfl ?_
    refine Run.nil ?_
    refine T_cond rfl rfl (fun h8 => ?_) (fun h8 => ?_)
    · have k8 := of_decide_eq_true h8
      refine T_regionS ?_
      refine Run.one (ok_move rfl rfl) rfl rfl rfl ?_
      refine Run.one ((ok_shr rfl rfl rfl (by omega) (by simp [IntKind.bits])).sub (int_eq (shr8 _))) rfl rfl rfl ?_
      refine Run.one (ok_assign rfl rfl) rfl rfl rfl ?_
      refine Run.nil ?_
      refine T_region ?_
      refine Run.one (ok_move rfl rfl) rfl rfl rfl ?_
      refine Run.one (ok_ari rfl rfl rfl rfl (wrap_i64 (by omega) (by omega))) rfl rfl rfl ?_
      refine Run.one (ok_assign rfl rfl) rfl rfl rfl ?_
      refine Run.nil ?_
      refine T_regionS ?_
      refine Run.one (ok_move rfl rfl) rfl rfl rfl ?_
      refine Run.one (ok_move rfl rfl) rfl rfl rfl ?_
      refine Run.one (ok_conv rfl rfl (wrap_u8 (by omega) (by omega))) rfl rfl rfl ?_
      have hb := bitLen_small (x := x / 256) (by omega)
      have e1 := Lib.bitLen_shift8 x (by omega) (by omega)
      refine Run.one (ok_len8 rfl rfl rfl (by omega)) rfl rfl rfl ?_
      refine Run.one (ok_conv rfl rfl (wrap_i64 (by omega) (by omega))) rfl rfl rfl ?_
      refine Run.one (ok_ari (z := ((Lib.bitLen x : Nat) : Int)) rfl rfl rfl (congrArg some (by omega)) (wrap_i64 (by omega) (by omega))) rfl rfl rfl ?_
      refine Run.one (ok_assign rfl rfl) rfl rfl rfl ?_
      refine Run.nil ?_
      refine T_ret ?_
      exact ⟨_, [], .one (.tmp rfl), List.nil_sublist _, rfl, rfl⟩
    · have k8 := of_decide_eq_false h8
      refine T_skip ?_
      refine T_regionS ?_
      refine Run.one (ok_move rfl rfl) rfl rfl rfl ?_
      refine Run.one (ok_move rfl rfl) rfl rfl rfl ?_
      refine Run.one (ok_conv rfl rfl (wrap_u8 (by omega) (by omega))) rfl rfl rfl ?_
      have hb := bitLen_small (x := x) (by omega)
      refine Run.one (ok_len8 rfl rfl rfl (by omega)) rfl rfl rfl ?_
      refine Run.one (ok_conv rfl rfl (wrap_i64 (by omega) (by omega))) rfl rfl rfl ?_
      refine Run.one (ok_ari (z := ((Lib.bitLen x : Nat) : Int)) rfl rfl rfl (congrArg some (by omega)) (wrap_i64 (by omega) (by omega))) rfl rfl rfl ?_
      refine Run.one (ok_assign rfl rfl) rfl rfl rfl ?_
      refine Run.nil ?_
      refine T_ret ?_
      exact ⟨_, [], .one (.tmp rfl), List.nil_sublist _, rfl, rfl⟩
theorem lz32_spec {x : Nat} (hx : x < 4294967296) : PSpec Tryz.prog G 124 [intS .u32 x] (intS .i64 (32 - Lib.bitLen x : Nat)) := by
  have hb := (bitLen_spec 32 x (by omega) (by omega)).2.2
  refine fn_spec Tryz.func124 rfl rfl rfl ?_
  refine T_regionS ?_
  refine Run.one (ok_assign rfl rfl) rfl rfl rfl ?_
  refine Run.nil ?_
  refine T_regionS ?_
  refine Run.one (ok_move rfl rfl) rfl rfl rfl ?_
  refine Run.one (ok_call rfl rfl (len32_spec hx)) rfl rfl rfl ?_
  refine Run.one (ok_ari (z := ((32 - Lib.bitLen x : Nat) : Int)) rfl rfl rfl (congrArg some (by omega)) (wrap_i64 (by omega) (by omega))) rfl rfl rfl ?_
  refine Run.one (ok_assign rfl rfl) rfl rfl rfl ?_
  refine Run.nil ?_
  refine T_ret ?_
  exact ⟨_, [], .one (.tmp rfl), List.nil_sublist _, rfl, rfl⟩
theorem tz64_spec [ht : Tab G] {x : Nat} (hx : x < 18446744073709551616) : PSpec Tryz.prog G 121 [intS .u64 x] (intS .i64 (Lib.ctz 64 x : Nat)) := by
  refine fn_spec Tryz.func121 rfl rfl rfl ?_
  refine T_regionS ?_
  refine Run.one (ok_assign rfl rfl) rfl rfl rfl ?_
  refine Run.nil ?_
  refine T_seq ?_
  refine T_regionS ?_
  refine Run.one (ok_move rfl rfl) rfl rfl rfl ?_
  refine Run.one (ok_cmp rfl rfl rfl rfl) rfl rfl rfl ?_
  refine Run.nil ?_
  refine T_cond rfl rfl (fun h4 => ?_) (fun h4 => ?_)
  · have k4 := beq_iff_eq.1 h4
    refine T_regionS ?_
    refine Run.one (ok_assign rfl rfl) rfl rfl rfl ?_
    refine Run.nil ?_
    refine T_ret ?_
    exact ⟨_, [], .one (.tmp rfl), List.nil_sublist _, by rw [show x = 0 by omega]; rfl, rfl⟩
  · have k4 := beq_eq_false_iff_ne.1 h4
    obtain ⟨hlow, hc⟩ := Lib.lowest_bit 64 x (by omega) (by omega)
    rw [show (2 : Nat) ^ 64 = 18446744073709551616 from rfl] at hlow
    obtain ⟨hi, htab⟩ := Lib.deBruijn64_at _ hc
    refine T_skip ?_
    refine T_regionS ?_
    refine Run.one (ok_move rfl rfl) rfl rfl rfl ?_
    refine Run.one (ok_move rfl rfl) rfl rfl rfl ?_
    refine Run.one ((ok_neg rfl rfl).sub (int_eq (n := ((18446744073709551616 - x : Nat) : Int)) (by rw [wrap_u64_mod]; omega))) rfl rfl rfl ?_
    refine Run.one ((ok_bits rfl (by simp) rfl rfl).sub (int_eq (n := ((2 ^ Lib.ctz 64 x : Nat) : Int)) (by rw [bitI_and (by omega) (by omega), hlow]))) rfl rfl rfl ?_
    refine Run.one ((ok_ari_wrap rfl rfl rfl rfl).sub (int_eq (n := ((2 ^ Lib.ctz 64 x * 285870213051353865 % 18446744073709551616 : Nat) : Int)) (by rw [wrap_u64_mod]; rfl))) rfl rfl rfl ?_
    refine Run.one ((ok_shr rfl rfl rfl (by omega) (by simp [IntKind.bits])).sub (int_eq (shr58 _))) rfl rfl rfl ?_
    refine Run.one (ok_indexArr rfl rfl rfl hi rfl) rfl rfl rfl ?_
    refine Run.one (ok_load_glob rfl rfl ht.h (by rw [Nat.mul_one, tab_get hi, htab])) rfl rfl rfl ?_
    refine Run.one (ok_conv rfl rfl (wrap_i64 (by omega) (by omega))) rfl rfl rfl ?_
    refine Run.one (ok_assign rfl rfl) rfl rfl rfl ?_
    refine Run.nil ?_
    refine T_ret ?_
    exact ⟨_, [], .one (.tmp rfl), List.nil_sublist _, rfl, rfl⟩
end Go.Proofs
