/- Trim and Up of prod once more: the row of the result is the caller's own. -/
import Derived.Test.YtijnlobgmfmhjaaGreatDoorSnk
import Derived.Test.YtijnlobgmfmhjaaGreatDoorSvz
namespace Go.Proofs
open Go Go.Sv Num
variable {G : Imm}
theorem trim_own {l : List Nat} {n : Nat} [hn : IsNat l n] (hk : l.length ≤ cap) (h0n : n ≠ 0) : CallSpec Tryz.prog G 91 [natS l] [] (fun s H' => ∃ b c, rowOk (some (b, c)) (dig (n)).length ∧ s = eqS (rowV (some (b, c)) (dig (n)).length) ∧ H' = [rowE (some (b, c)) 65 1 (dig (n)).length ((dig (n)).flatMap u32S)]) := by
  have hk' := hk
  unfold cap at hk'
  refine fn_spec Tryz.func91 rfl rfl rfl ?_
  refine T_regionS ?_
  refine Run.one (ok_assign rfl rfl) rfl rfl rfl ?_
  refine Run.nil ?_
  refine T_regionS ?_
  refine Run.one (ok_move rfl rfl) rfl rfl rfl ?_
  refine Run.one (ok_len rfl rfl) rfl rfl rfl ?_
  refine Run.one (ok_assign rfl rfl) rfl rfl rfl ?_
  refine Run.nil ?_
  refine T_seq ?_
  refine T_block ?_
  have hdn : dig n ≠ [] := fun h => h0n (dig_eq_nil.1 h)
  refine T_loop (γ := Nat) (fun g => ⟨_, [(3, intS .i64 g), (0, natS l)], [], [], (0, false)⟩) (fun g => g ≤ l.length ∧ ∀ i, g ≤ i → limb l i = 0) (fun g => g) l.length ⟨Nat.le_refl _, fun i h => limb_out h⟩ (ent_g (subG_cons rfl (subG_cons rfl trivial))) ?_
  rintro g ⟨hg, hz⟩
  have fin : (g = 0 ∨ limb l (g - 1) ≠ 0) → l.take g = dig n := fun h => by rw [← hn.val]; exact trim_take hn.lim hg hz h
  refine T_seq ?_
  refine T_regionS ?_
  refine Run.one (ok_move rfl rfl) rfl rfl rfl ?_
  refine Run.oneB (ok_cmp rfl rfl rfl rfl) rfl rfl rfl (fun hb1 => ?_) (fun hb1 => ?_)
  · have h0 := of_decide_eq_true hb1
    refine Run.one (ok_move rfl rfl) rfl rfl rfl ?_
    refine Run.one (ok_move rfl rfl) ⟨_, _, rfl, rfl, rfl⟩ rfl rfl ?_
    refine Run.one (ok_move rfl rfl) ⟨_, _, rfl, rfl, rfl⟩ rfl rfl ?_
    refine Run.one (ok_ari (z := ((g - 1 : Nat) : Int)) rfl rfl rfl (congrArg some (by omega)) (wrap_i64 (by omega) (by omega))) ⟨_, _, rfl, rfl, rfl⟩ rfl rfl ?_
    refine Run.one (ok_indexAddr rfl rfl rfl (by omega) (y := limb l (g - 1)) (limb_get (by omega))) ⟨_, _, rfl, rfl, rfl⟩ rfl rfl ?_
    refine Run.one (ok_load rfl rfl) ⟨_, _, rfl, rfl, rfl⟩ rfl rfl ?_
    refine Run.one (ok_cmp rfl rfl rfl rfl) ⟨_, _, rfl, rfl, rfl⟩ rfl rfl ?_
    refine Run.one (ok_pick rfl rfl rfl) rfl rfl rfl ?_
    refine Run.nil ?_
    refine T_cond rfl rfl (fun hc2 => ?_) (fun hc2 => ?_)
    · have h1 : limb l (g - 1) = 0 := by simpa using hc2
      refine T_skip ?_
      refine T_block ?_
      refine T_region ?_
      refine Run.one (ok_move rfl rfl) rfl rfl rfl ?_
      refine Run.one (ok_ari (z := ((g - 1 : Nat) : Int)) rfl rfl rfl (congrArg some (by omega)) (wrap_i64 (by omega) (by omega))) rfl rfl rfl ?_
      refine Run.one (ok_assign rfl rfl) rfl rfl rfl ?_
      refine Run.nil ?_
      exact ⟨g - 1, ⟨by omega, fun i hi => by by_cases h : g ≤ i; exact hz i h; rw [show i = g - 1 by omega]; exact h1⟩, by omega, ent_g (subG_cons rfl (subG_cons rfl trivial))⟩
    · have h1 : limb l (g - 1) ≠ 0 := by simpa using hc2
      refine T_exit ?_
      refine T_regionS ?_
      refine Run.one (ok_move rfl rfl) rfl rfl rfl ?_
      refine Run.one (ok_move rfl rfl) rfl rfl rfl ?_
      refine Run.one (ok_move rfl rfl) rfl rfl rfl ?_
      refine Run.one (ok_slice (lo := 0) (hi := g) (m := g) rfl rfl (.inl ⟨rfl, rfl⟩) (.inr ⟨_, _, rfl, rfl⟩) (.inr ⟨_, _, rfl, rfl, Nat.le_refl _, hg⟩) (by omega) hg) rfl rfl rfl ?_
      refine Run.call0 rfl rfl rfl (clone_own (l := l.take g) (by simp; omega) (by rw [fin (.inr h1)]; exact hdn)) rfl rfl rfl ?_
      rintro s H1 ⟨b, c, hb, rfl, rfl⟩
      refine Run.one (ok_assign rfl rfl) rfl rfl rfl ?_
      refine Run.nil ?_
      refine T_ret ?_
      exact ⟨_, _, .one (.tmp rfl), List.Sublist.refl _, b, c, by rw [← fin (.inr h1)]; exact hb, by rw [← fin (.inr h1)], by rw [← fin (.inr h1)]; rfl⟩
  · have h0 := of_decide_eq_false hb1
    refine Run.one (ok_move rfl rfl) rfl rfl rfl ?_
    refine Run.no ⟨_, _, rfl, rfl, rfl⟩ rfl rfl ?_
    refine Run.no ⟨_, _, rfl, rfl, rfl⟩ rfl rfl ?_
    refine Run.no ⟨_, _, rfl, rfl, rfl⟩ rfl rfl ?_
    refine Run.no ⟨_, _, rfl, rfl, rfl⟩ rfl rfl ?_
    refine Run.no ⟨_, _, rfl, rfl, rfl⟩ rfl rfl ?_
    refine Run.no ⟨_, _, rfl, rfl, rfl⟩ rfl rfl ?_
    refine Run.one (ok_pick rfl rfl rfl) rfl rfl rfl ?_
    refine Run.nil ?_
    refine T_condF rfl rfl ?_
    refine T_exit ?_
    refine T_regionS ?_
    refine Run.one (ok_move rfl rfl) rfl rfl rfl ?_
    refine Run.one (ok_move rfl rfl) rfl rfl rfl ?_
    refine Run.one (ok_move rfl rfl) rfl rfl rfl ?_
    refine Run.one (ok_slice (lo := 0) (hi := g) (m := g) rfl rfl (.inl ⟨rfl, rfl⟩) (.inr ⟨_, _, rfl, rfl⟩) (.inr ⟨_, _, rfl, rfl, Nat.le_refl _, hg⟩) (by omega) hg) rfl rfl rfl ?_
    refine Run.call0 rfl rfl rfl (clone_own (l := l.take g) (by simp; omega) (by rw [fin (.inl (by omega))]; exact hdn)) rfl rfl rfl ?_
    rintro s H1 ⟨b, c, hb, rfl, rfl⟩
    refine Run.one (ok_assign rfl rfl) rfl rfl rfl ?_
    refine Run.nil ?_
    refine T_ret ?_
    exact ⟨_, _, .one (.tmp rfl), List.Sublist.refl _, b, c, by rw [← fin (.inl (by omega))]; exact hb, by rw [← fin (.inl (by omega))], by rw [← fin (.inl (by omega))]; rfl⟩
theorem up_own {a : List Nat} {m k : Nat} [hm : IsNat a m] (hk : k ≤ 65536) (hs : a.length + 10000 ≤ cap) (h0n : m * 2 ^ k ≠ 0) : CallSpec Tryz.prog G 125 [natS a, intS .i64 k] [] (fun s H' => ∃ b c, rowOk (some (b, c)) (dig (m * 2 ^ k)).length ∧ s = eqS (rowV (some (b, c)) (dig (m * 2 ^ k)).length) ∧ H' = [rowE (some (b, c)) 65 1 (dig (m * 2 ^ k)).length ((dig (m * 2 ^ k)).flatMap u32S)]) := by
  unfold cap at hs
  have hsl : k % 32 < 32 := Nat.mod_lt _ (by omega)
  refine fn_spec Tryz.func125 rfl rfl rfl ?_
  refine T_regionS ?_
  refine Run.one (ok_assign rfl rfl) rfl rfl rfl ?_
  refine Run.nil ?_
  refine T_regionS ?_
  refine Run.one (ok_move rfl rfl) rfl rfl rfl ?_
  refine Run.one ((ok_call rfl rfl count_spec).sub (int_eq (n := ((k : Nat) : Int)) (by omega))) rfl rfl rfl ?_
  refine Run.one (ok_assign rfl rfl) rfl rfl rfl ?_
  refine Run.nil ?_
  refine T_regionS ?_
  refine Run.one (ok_move rfl rfl) rfl rfl rfl ?_
  refine Run.one ((ok_quo rfl rfl rfl (by omega) (by omega) (wrap_i64 (by omega) (by omega))).sub (int_eq (n := ((k / 32 : Nat) : Int)) (by omega))) rfl rfl rfl ?_
  refine Run.one (ok_move rfl rfl) rfl rfl rfl ?_
  refine Run.one ((ok_quo rfl rfl rfl (by omega) (by omega) (wrap_i64 (by omega) (by omega))).sub (int_eq (n := ((k / 32 : Nat) : Int)) (by omega))) rfl rfl rfl ?_
  refine Run.one (ok_move rfl rfl) rfl rfl rfl ?_
  refine Run.one (ok_len rfl rfl) rfl rfl rfl ?_
  refine Run.one (ok_ari rfl rfl rfl rfl (wrap_i64 (by omega) (by omega))) rfl rfl rfl ?_
  refine Run.one (ok_ari (z := ((k / 32 + a.length + 1 : Nat) : Int)) rfl rfl rfl (congrArg some (by omega)) (wrap_i64 (by omega) (by omega))) rfl rfl rfl ?_
  refine Run.makeNat (n := k / 32) (c := k / 32 + a.length + 1) rfl rfl rfl rfl rfl rfl rfl (by omega) (by omega) (by unfold cap; omega) fun b13 hb13 => ?_
  refine Run.one (ok_assign rfl rfl) rfl rfl rfl ?_
  refine Run.nil ?_
  refine T_regionS ?_
  refine Run.one (ok_assign rfl rfl) rfl rfl rfl ?_
  refine Run.nil ?_
  refine T_seq ?_
  refine T_regionS ?_
  refine Run.one (ok_move rfl rfl) rfl rfl rfl ?_
  refine Run.one (ok_len rfl rfl) rfl rfl rfl ?_
  refine Run.one (ok_move rfl rfl) rfl rfl rfl ?_
  refine Run.nil ?_
  refine T_block ?_
  refine T_loop4 (fun i q c out => ⟨_, [(24, intS .i64 (i : Nat)), (23, intS .i64 a.length), (22, natS a), (6, intS .u32 (c : Nat)), (5, eqS (rowV q (k / 32 + i))), (1, intS .i64 (k : Nat))], [rowE q 65 1 (k / 32 + i) (out.flatMap u32S)], [], (0, false)⟩)
      (fun i q c out => i ≤ a.length ∧ rowOk q (k / 32 + i) ∧ c < 2 ^ (k % 32) ∧ Lim out ∧ out.length = k / 32 + i ∧ val out + 4294967296 ^ (k / 32 + i) * c = 4294967296 ^ (k / 32) * (2 ^ (k % 32) * low a i)) (fun i q c out => a.length - i)
      0 (some (b13, k / 32 + a.length + 1)) 0 (List.replicate (k / 32) 0) ⟨Nat.zero_le _, hb13, Nat.pow_pos (by omega), lim_replicate _, List.length_replicate, by rw [val_replicate_zero, low_zero, Nat.mul_zero, Nat.mul_zero, Nat.mul_zero]⟩ (ent_h (subG_cons rfl (subG_cons rfl (subG_cons rfl (subG_cons rfl (subG_cons rfl (subG_cons rfl trivial)))))) rfl) ?_
  rintro i q c out ⟨hi, hq, hc, hlo, hln, hval⟩
  have hp2 := p2_le hsl
  refine T_regionS ?_
  refine Run.one (ok_cmp rfl rfl rfl rfl) rfl rfl rfl ?_
  refine Run.nil ?_
  refine T_seq ?_
  refine T_cond rfl rfl (fun h25 => ?_) (fun h25 => ?_)
  · have k25 := of_decide_eq_true h25
    have hx := limb_lt hm.lim i
    obtain ⟨hu1, hu2⟩ := up_lt hx hsl hc
    obtain ⟨hu3, hu4⟩ := up_step (x := limb a i) (by omega) hc
    refine T_skip ?_
    refine T_seq ?_
    refine T_block ?_
    refine T_regionS ?_
    refine Run.one (ok_indexAddr rfl rfl rfl (by omega) (y := limb a i) (limb_get (by omega))) rfl rfl rfl ?_
    refine Run.one (ok_load rfl rfl) rfl rfl rfl ?_
    refine Run.one (ok_assign rfl rfl) rfl rfl rfl ?_
    refine Run.nil ?_
    refine T_regionS ?_
    refine Run.one (ok_move rfl rfl) rfl rfl rfl ?_
    refine Run.one (ok_move rfl rfl) rfl rfl rfl ?_
    refine Run.one ((ok_rem rfl rfl rfl (by omega) (by omega)).sub (int_eq (n := ((k % 32 : Nat) : Int)) (by omega))) rfl rfl rfl ?_
    refine Run.one ((ok_shl rfl rfl rfl (by omega) (by simp [IntKind.bits]; omega)).sub (int_eq (n := ((2 ^ (k % 32) : Nat) : Int)) (by have := shlN 1 (k % 32); rw [Nat.one_mul] at this; refine (congrArg _ this).trans ?_; exact wrap_u32 (by omega) (by omega)))) rfl rfl rfl ?_
    refine Run.one (ok_call rfl rfl (mul32_spec hx (by omega))) rfl rfl rfl ?_
    refine Run.one (ok_move rfl rfl) rfl rfl rfl ?_
    refine Run.one (ok_extract rfl rfl rfl) rfl rfl rfl ?_
    refine Run.one (ok_extract rfl rfl rfl) rfl rfl rfl ?_
    refine Run.one (ok_assign rfl rfl) rfl rfl rfl ?_
    refine Run.one (ok_assign rfl rfl) rfl rfl rfl ?_
    refine Run.nil ?_
    refine T_region ?_
    refine Run.one (ok_move rfl rfl) rfl rfl rfl ?_
    refine Run.one (ok_move rfl rfl) rfl rfl rfl ?_
    refine Run.one (ok_move rfl rfl) rfl rfl rfl ?_
    refine Run.one ((ok_bits rfl (by simp) rfl rfl).sub (int_eq (n := (((limb a i * 2 ^ (k % 32) + c) % 4294967296 : Nat) : Int)) (by rw [bitI_or32 (by omega) (by omega), hu3]))) rfl rfl rfl ?_
    refine Run.one (ok_buildNat [(limb a i * 2 ^ (k % 32) + c) % 4294967296] rfl rfl (by decide) rfl (by simp) rfl rfl rfl) rfl rfl rfl ?_
    refine Run.append 0 rfl rfl rfl rfl rfl rfl rfl rfl hq (by rw [flat_u32_length, hln]) flat_u32 (by unfold big; simp; omega) (by unfold big; simp; omega) fun q35 hq35 => ?_
    refine Run.one ((ok_move rfl rfl).sub (int_eq (n := (((limb a i * 2 ^ (k % 32) + c) / 4294967296 : Nat) : Int)) (by rw [hu4]))) rfl rfl rfl ?_
    refine Run.one (ok_assign rfl rfl) rfl rfl rfl ?_
    refine Run.one (ok_assign rfl rfl) rfl rfl rfl ?_
    refine Run.nil ?_
    refine T_region ?_
    refine Run.one (ok_ari rfl rfl rfl rfl (wrap_i64 (by omega) (by omega))) rfl rfl rfl ?_
    refine Run.one (ok_move rfl rfl) rfl rfl rfl ?_
    refine Run.nil ?_
    refine ⟨i + 1, q35, (limb a i * 2 ^ (k % 32) + c) / 4294967296, out ++ [(limb a i * 2 ^ (k % 32) + c) % 4294967296], ⟨by omega, hq35, hu2, lim_snoc hlo (by omega), by simp [hln]; omega, ?_⟩, by omega, ent_h (subG_cons rfl (subG_cons rfl (subG_cons rfl (subG_cons rfl (subG_cons rfl (subG_cons rfl trivial)))))) (by rw [List.flatMap_append]; rfl)⟩
    rw [val_snoc, hln, low_succ, show k / 32 + (i + 1) = k / 32 + i + 1 by omega, pow_split]; exact up_val (Nat.pow_add _ _ _) hval
  · have k25 := of_decide_eq_false h25
    have hia : i = a.length := by omega
    rw [hia, low_all (Nat.le_refl _), hm.val] at hval
    refine T_exit ?_
    refine T_regionS ?_
    refine Run.one (ok_move rfl rfl) rfl rfl rfl ?_
    refine Run.one (ok_move rfl rfl) rfl rfl rfl ?_
    refine Run.one (ok_buildNat [c] rfl rfl (by decide) rfl (by simp) rfl rfl rfl) rfl rfl rfl ?_
    refine Run.append 0 rfl rfl rfl rfl rfl rfl rfl rfl hq (by rw [flat_u32_length, hln]) flat_u32 (by unfold big; simp; omega) (by unfold big; simp; omega) fun q42 hq42 => ?_
    refine Run.ghost _ rfl (ghost_sl 0 47 rfl rfl hq42 (l := out ++ [c]) (f := u32S) (by simp [hln]) List.flatMap_append.symm flat_u32 (by unfold big; simp; omega)) ?_
    have : IsNat (out ++ [c]) (m * 2 ^ k) := ⟨lim_snoc hlo (by omega), by rw [val_snoc, hln, hia, hval, two_pow_split k, Nat.mul_comm m, Nat.mul_assoc]⟩
    refine Run.call0 rfl rfl rfl (trim_own (by unfold cap; simp; omega) h0n) rfl rfl rfl ?_
    rintro s H1 ⟨b, c, hb, rfl, rfl⟩
    refine Run.one (ok_assign rfl rfl) rfl rfl rfl ?_
    refine Run.nil ?_
    refine T_ret ?_
    exact ⟨_, [_], .one (.tmp rfl), .refl _, b, c, hb, rfl, rfl⟩
end Go.Proofs
