/- Shifts: straitref02 and prod, up and down; Mul32. -/
import Derived.Test.YtijnlobgmfmhjaaGreatDoorSng
namespace Go.Proofs
open Go Go.Sv Num
variable {G : Imm}
theorem bitI_or32 {x y : Nat} (hx : x < 4294967296) (hy : y < 4294967296) : bitI .or .u32 x y = ((x ||| y : Nat) : Int) := by
  have h : x ||| y < 2 ^ 32 := Nat.or_lt_two_pow (by simpa using hx) (by simpa using hy)
  have e1 : (BitVec.ofInt 32 (x : Int)).toNat = x := by simp; omega
  have e2 : (BitVec.ofInt 32 (y : Int)).toNat = y := by simp; omega
  show IntKind.u32.wrap ((BitVec.ofInt 32 (x : Int) ||| BitVec.ofInt 32 (y : Int)).toNat : Nat) = _
  rw [BitVec.toNat_or, e1, e2, wrap_u32 (by omega) (by simp at h; omega)]
theorem or_add {x y s : Nat} (h : x % 2 ^ s = 0) (hy : y < 2 ^ s) : x ||| y = x + y := by
  have := Nat.shiftLeft_add_eq_or_of_lt hy (x / 2 ^ s)
  rw [Nat.shiftLeft_eq, Nat.div_mul_cancel (Nat.dvd_of_mod_eq_zero h)] at this
  exact this.symm
theorem shlN (x s : Nat) : (x : Int) * 2 ^ ((s : Nat) : Int).toNat = ((x * 2 ^ s : Nat) : Int) := by simp [Int.natCast_mul, Int.natCast_pow]
theorem shrN (x s : Nat) : (x : Int) / 2 ^ ((s : Nat) : Int).toNat = ((x / 2 ^ s : Nat) : Int) := by simp [Int.natCast_ediv, Int.natCast_pow]
theorem pow32 {s : Nat} (hs : s ≤ 32) : 4294967296 = 2 ^ s * 2 ^ (32 - s) := by rw [← Nat.pow_add, show s + (32 - s) = 32 by omega]
theorem up_step {x s c : Nat} (hs : s ≤ 32) (hc : c < 2 ^ s) : (x * 2 ^ s) % 4294967296 ||| c = (x * 2 ^ s + c) % 4294967296 ∧ (x * 2 ^ s) / 4294967296 = (x * 2 ^ s + c) / 4294967296 := by
  have hd : 2 ^ s ∣ 4294967296 := ⟨2 ^ (32 - s), pow32 hs⟩
  have h0 : (x * 2 ^ s) % 4294967296 % 2 ^ s = 0 := by rw [Nat.mod_mod_of_dvd _ hd, Nat.mul_mod_left]
  have hlt := Nat.mod_lt (x * 2 ^ s) (show 0 < 4294967296 by omega)
  have hle : (x * 2 ^ s) % 4294967296 + 2 ^ s ≤ 4294967296 := by
    obtain ⟨v, hv⟩ := Nat.dvd_of_mod_eq_zero h0
    rw [hv] at hlt ⊢
    have e := pow32 hs
    generalize 2 ^ (32 - s) = y at e
    rw [e] at hlt ⊢
    have := Nat.lt_of_mul_lt_mul_left hlt
    calc 2 ^ s * v + 2 ^ s = 2 ^ s * (v + 1) := by rw [Nat.mul_add, Nat.mul_one]
      _ ≤ 2 ^ s * y := Nat.mul_le_mul_left _ this
  rw [or_add h0 hc]
  generalize x * 2 ^ s = u at *
  omega
theorem limb_dig (j : Nat) : ∀ n : Nat, limb (dig n) j = n / 4294967296 ^ j % 4294967296 := by
  induction j with
  | zero =>
    intro n
    by_cases h : n = 0
    · subst h; rw [dig_zero]; rfl
    · rw [dig_pos h, limb_zero, Nat.pow_zero, Nat.div_one]
  | succ j ih =>
    intro n
    by_cases h : n = 0
    · subst h; rw [dig_zero, limb_nil, Nat.zero_div, Nat.zero_mod]
    · rw [dig_pos h, limb_succ, ih, Nat.div_div_eq_div_mul, Nat.mul_comm, ← Nat.pow_succ]
theorem val_div {a : List Nat} (ha : Lim a) (w : Nat) : val a / 4294967296 ^ w = val (a.drop w) := by
  rw [low_split a w, Nat.add_mul_div_left _ _ (Nat.pow_pos (by omega)), Nat.div_eq_of_lt (low_lt ha w), Nat.zero_add]
theorem down_digit {a : List Nat} (ha : Lim a) {w s j : Nat} (hs : s ≤ 32) : limb (dig (val (a.drop w) / 2 ^ s)) j = (limb a (w + j) + 4294967296 * limb a (w + j + 1)) / 2 ^ s % 4294967296 := by
  rw [limb_dig, Nat.div_div_eq_div_mul, Nat.mul_comm, ← Nat.div_div_eq_div_mul, val_div (lim_drop ha w), List.drop_drop, drop_val, drop_val]
  have e := pow32 hs
  generalize val (List.drop (w + j + 1 + 1) a) = r
  generalize limb a (w + j) = x
  generalize limb a (w + j + 1) = y
  have e2 : x + 4294967296 * (y + 4294967296 * r) = x + 4294967296 * y + 2 ^ s * (2 ^ (32 - s) * r * 4294967296) := by
    rw [Nat.mul_add, ← Nat.add_assoc]
    congr 1
    generalize 2 ^ s = p at *
    generalize 2 ^ (32 - s) = q at *
    rw [← Nat.mul_assoc, Nat.mul_right_comm q r, ← Nat.mul_assoc, ← Nat.mul_assoc, ← e]
  rw [e2, Nat.add_mul_div_left _ _ (Nat.pow_pos (by omega)), Nat.add_mul_mod_self_right]
theorem two_pow_split (k : Nat) : 2 ^ k = 4294967296 ^ (k / 32) * 2 ^ (k % 32) := by
  rw [show (4294967296 : Nat) = 2 ^ 32 by rfl, ← Nat.pow_mul, ← Nat.pow_add, Nat.div_add_mod]
theorem div_pow {a : List Nat} (ha : Lim a) (k : Nat) : val a / 2 ^ k = val (a.drop (k / 32)) / 2 ^ (k % 32) := by
  rw [two_pow_split, ← Nat.div_div_eq_div_mul, val_div ha]
theorem p2_le {s : Nat} (h : s < 32) : 2 ^ s ≤ 2147483648 := Nat.pow_le_pow_right (n := 2) (by omega) (show s ≤ 31 by omega)
theorem up_lt {x s c : Nat} (hx : x < 4294967296) (hs : s < 32) (hc : c < 2 ^ s) : x * 2 ^ s < 9223372036854775808 ∧ (x * 2 ^ s + c) / 4294967296 < 2 ^ s := by
  have h1 := p2_le hs
  have h2 := Nat.mul_le_mul (show x ≤ 4294967295 by omega) h1
  refine ⟨by omega, ?_⟩
  rw [Nat.div_lt_iff_lt_mul (by omega)]
  have h3 : (x + 1) * 2 ^ s ≤ 4294967296 * 2 ^ s := Nat.mul_le_mul_right _ (by omega)
  rw [Nat.add_mul, Nat.one_mul] at h3
  rw [Nat.mul_comm _ 4294967296]; omega
theorem up_val {v p c x q ps l pi : Nat} (hp : p = q * pi) (h : v + p * c = q * (ps * l)) : v + p * ((x * ps + c) % 4294967296) + p * 4294967296 * ((x * ps + c) / 4294967296) = q * (ps * (l + pi * x)) := by
  have e : p * ((x * ps + c) % 4294967296) + p * 4294967296 * ((x * ps + c) / 4294967296) = p * (x * ps) + p * c := by
    rw [Nat.mul_assoc, ← Nat.mul_add, Nat.mod_add_div, Nat.mul_add]
  have e2 : q * (ps * (l + pi * x)) = q * (ps * l) + p * (x * ps) := by subst hp; grind
  omega
theorem limb_snoc {l : List Nat} {n x : Nat} {f : Nat → Nat} (hl : l.length = n) (h : ∀ t, t < n → limb l t = f t) {t : Nat} (ht : t < n + 1) (hx : x = f n := by rfl) : limb (l ++ [x]) t = f t := by
  by_cases h1 : t < n
  · rw [← h t h1]; simp only [limb, List.getD_eq_getElem?_getD]; rw [List.getElem?_append_left (by omega)]
  · have : t = n := by omega
    subst this; subst hx; subst hl
    simp [limb, List.getD_eq_getElem?_getD]
theorem mul32_spec {x y : Nat} (hx : x < 4294967296) (hy : y < 4294967296) : PSpec Tryz.prog G 133 [intS .u32 x, intS .u32 y] (tupS [intS .u32 (x * y / 4294967296 : Nat), intS .u32 (x * y % 4294967296 : Nat)]) := by
  have hxy := Nat.mul_le_mul (show x ≤ 4294967295 by omega) (show y ≤ 4294967295 by omega)
  obtain ⟨w, hw⟩ : ∃ w, w = x * y := ⟨_, rfl⟩
  rw [← hw] at hxy ⊢
  refine fn_spec Tryz.func133 rfl rfl rfl ?_
  refine T_regionS ?_
  refine Run.one (ok_assign rfl rfl) rfl rfl rfl ?_
  refine Run.one (ok_assign rfl rfl) rfl rfl rfl ?_
  refine Run.nil ?_
  refine T_regionS ?_
  refine Run.one (ok_move rfl rfl) rfl rfl rfl ?_
  refine Run.one (ok_conv rfl rfl (wrap_u64 (by omega) (by omega))) rfl rfl rfl ?_
  refine Run.one (ok_move rfl rfl) rfl rfl rfl ?_
  refine Run.one (ok_conv rfl rfl (wrap_u64 (by omega) (by omega))) rfl rfl rfl ?_
  refine Run.one (ok_ari (z := ((w : Nat) : Int)) rfl rfl rfl (congrArg some (by rw [hw, Int.natCast_mul])) (wrap_u64 (by omega) (by omega))) rfl rfl rfl ?_
  refine Run.one (ok_assign rfl rfl) rfl rfl rfl ?_
  refine Run.nil ?_
  refine T_regionS ?_
  refine Run.one (ok_move rfl rfl) rfl rfl rfl ?_
  refine Run.one ((ok_shr rfl rfl rfl (by omega) (by simp [IntKind.bits])).sub (int_eq (shr32 _))) rfl rfl rfl ?_
  refine Run.one (ok_conv rfl rfl (wrap_u32 (by omega) (by omega))) rfl rfl rfl ?_
  refine Run.one (ok_move rfl rfl) rfl rfl rfl ?_
  refine Run.one (ok_conv (z := ((w % 4294967296 : Nat) : Int)) rfl rfl wrap_u32_mod) rfl rfl rfl ?_
  refine Run.one (ok_assign rfl rfl) rfl rfl rfl ?_
  refine Run.one (ok_assign rfl rfl) rfl rfl rfl ?_
  refine Run.nil ?_
  refine T_ret ?_
  exact ⟨_, [], .many (.cons (.tmp rfl) (.cons (.tmp rfl) (.nil))), List.nil_sublist _, rfl, rfl⟩
theorem rup_spec {a : List Nat} {m k : Nat} [hm : IsNat a m] (hk : k ≤ 65536) (hs : a.length + 10000 ≤ cap) : PSpec Tryz.prog G 89 [natS a, intS .i64 k] (natS (dig (m * 2 ^ k))) := by
  unfold cap at hs
  have hsl : k % 32 < 32 := Nat.mod_lt _ (by omega)
  refine fn_spec Tryz.func89 rfl rfl rfl ?_
  refine T_regionS ?_
  refine Run.one (ok_assign rfl rfl) rfl rfl rfl ?_
  refine Run.nil ?_
  refine T_regionS ?_
  refine Run.one (ok_move rfl rfl) rfl rfl rfl ?_
  refine Run.one ((ok_call rfl rfl rcount_spec).sub (int_eq (n := ((k : Nat) : Int)) (by omega))) rfl rfl rfl ?_
  refine Run.one (ok_assign rfl rfl) rfl rfl rfl ?_
  refine Run.nil ?_
  refine T_regionS ?_
  refine Run.one (ok_move rfl rfl) rfl rfl rfl ?_
  refine Run.one ((ok_quo rfl rfl rfl (by omega) (by omega) (wrap_i64 (by omega) (by omega))).sub (int_eq (n := ((k / 32 : Nat) : Int)) (by omega))) rfl rfl rfl ?_
  refine Run.makeNat (n := k / 32) (c := k / 32) rfl rfl rfl rfl rfl rfl rfl (Nat.le_refl _) (by omega) (by unfold cap; omega) fun b13 hb13 => ?_
  refine Run.one (ok_assign rfl rfl) rfl rfl rfl ?_
  refine Run.nil ?_
  refine T_regionS ?_
  refine Run.one (ok_assign rfl rfl) rfl rfl rfl ?_
  refine Run.nil ?_
  refine T_seq ?_
  refine T_regionS ?_
  refine Run.one (ok_assign rfl rfl) rfl rfl rfl ?_
  refine Run.nil ?_
  refine T_block ?_
  refine T_loop4 (fun i q c out => ⟨_, [(7, intS .i64 (i : Nat)), (6, intS .u32 (c : Nat)), (5, eqS (rowV q (k / 32 + i))), (1, intS .i64 (k : Nat)), (0, natS a)], [rowE q 65 1 (k / 32 + i) (out.flatMap u32S)], [], (0, false)⟩)
      (fun i q c out => i ≤ a.length ∧ rowOk q (k / 32 + i) ∧ c < 2 ^ (k % 32) ∧ Lim out ∧ out.length = k / 32 + i ∧ val out + 4294967296 ^ (k / 32 + i) * c = 4294967296 ^ (k / 32) * (2 ^ (k % 32) * low a i)) (fun i q c out => a.length - i)
      0 (some (b13, k / 32)) 0 (List.replicate (k / 32) 0) ⟨Nat.zero_le _, hb13, Nat.pow_pos (by omega), lim_replicate _, List.length_replicate, by rw [val_replicate_zero, low_zero, Nat.mul_zero, Nat.mul_zero, Nat.mul_zero]⟩ (ent_h (subG_cons rfl (subG_cons rfl (subG_cons rfl (subG_cons rfl (subG_cons rfl trivial))))) rfl) ?_
  rintro i q c out ⟨hi, hq, hc, hlo, hln, hval⟩
  have hp2 := p2_le hsl
  refine T_seq ?_
  refine T_regionS ?_
  refine Run.one (ok_move rfl rfl) rfl rfl rfl ?_
  refine Run.one (ok_move rfl rfl) rfl rfl rfl ?_
  refine Run.one (ok_len rfl rfl) rfl rfl rfl ?_
  refine Run.one (ok_cmp rfl rfl rfl rfl) rfl rfl rfl ?_
  refine Run.nil ?_
  refine T_cond rfl rfl (fun h17 => ?_) (fun h17 => ?_)
  · have k17 := of_decide_eq_true h17
    have hx := limb_lt hm.lim i
    obtain ⟨hu1, hu2⟩ := up_lt hx hsl hc
    obtain ⟨hu3, hu4⟩ := up_step (x := limb a i) (by omega) hc
    refine T_skip ?_
    refine T_seq ?_
    refine T_block ?_
    refine T_regionS ?_
    refine Run.one (ok_move rfl rfl) rfl rfl rfl ?_
    refine Run.one (ok_move rfl rfl) rfl rfl rfl ?_
    refine Run.one (ok_indexAddr rfl rfl rfl (by omega) (y := limb a i) (limb_get (by omega))) rfl rfl rfl ?_
    refine Run.one (ok_load rfl rfl) rfl rfl rfl ?_
    refine Run.one (ok_conv rfl rfl (wrap_u64 (by omega) (by omega))) rfl rfl rfl ?_
    refine Run.one (ok_move rfl rfl) rfl rfl rfl ?_
    refine Run.one ((ok_rem rfl rfl rfl (by omega) (by omega)).sub (int_eq (n := ((k % 32 : Nat) : Int)) (by omega))) rfl rfl rfl ?_
    refine Run.one (ok_conv rfl rfl (wrap_u64 (by omega) (by omega))) rfl rfl rfl ?_
    refine Run.one ((ok_shl rfl rfl rfl (by omega) (by simp [IntKind.bits]; omega)).sub (int_eq (n := ((limb a i * 2 ^ (k % 32) : Nat) : Int)) (by rw [shlN]; exact wrap_u64 (by omega) (by omega)))) rfl rfl rfl ?_
    refine Run.one (ok_assign rfl rfl) rfl rfl rfl ?_
    refine Run.nil ?_
    refine T_regionS ?_
    refine Run.one (ok_move rfl rfl) rfl rfl rfl ?_
    refine Run.one (ok_move rfl rfl) rfl rfl rfl ?_
    refine Run.one (ok_conv (z := ((limb a i * 2 ^ (k % 32) % 4294967296 : Nat) : Int)) rfl rfl wrap_u32_mod) rfl rfl rfl ?_
    refine Run.one (ok_move rfl rfl) rfl rfl rfl ?_
    refine Run.one ((ok_bits rfl (by simp) rfl rfl).sub (int_eq (n := (((limb a i * 2 ^ (k % 32) + c) % 4294967296 : Nat) : Int)) (by rw [bitI_or32 (by omega) (by omega), hu3]))) rfl rfl rfl ?_
    refine Run.one (ok_buildNat [(limb a i * 2 ^ (k % 32) + c) % 4294967296] rfl rfl (by decide) rfl (by simp) rfl rfl rfl) rfl rfl rfl ?_
    refine Run.append 0 rfl rfl rfl rfl rfl rfl rfl rfl hq (by rw [flat_u32_length, hln]) flat_u32 (by unfold big; simp; omega) (by unfold big; simp; omega) fun q35 hq35 => ?_
    refine Run.one (ok_assign rfl rfl) rfl rfl rfl ?_
    refine Run.nil ?_
    refine T_region ?_
    refine Run.one (ok_move rfl rfl) rfl rfl rfl ?_
    refine Run.one ((ok_shr rfl rfl rfl (by omega) (by simp [IntKind.bits])).sub (int_eq ((shr32 _).trans (by rw [hu4])))) rfl rfl rfl ?_
    refine Run.one (ok_conv rfl rfl (wrap_u32 (by omega) (by omega))) rfl rfl rfl ?_
    refine Run.one (ok_assign rfl rfl) rfl rfl rfl ?_
    refine Run.nil ?_
    refine T_region ?_
    refine Run.one (ok_move rfl rfl) rfl rfl rfl ?_
    refine Run.one (ok_ari rfl rfl rfl rfl (wrap_i64 (by omega) (by omega))) rfl rfl rfl ?_
    refine Run.one (ok_assign rfl rfl) rfl rfl rfl ?_
    refine Run.nil ?_
    refine ⟨i + 1, q35, (limb a i * 2 ^ (k % 32) + c) / 4294967296, out ++ [(limb a i * 2 ^ (k % 32) + c) % 4294967296], ⟨by omega, hq35, hu2, lim_snoc hlo (by omega), by simp [hln]; omega, ?_⟩, by omega, ent_h (subG_cons rfl (subG_cons rfl (subG_cons rfl (subG_cons rfl (subG_cons rfl trivial))))) (by rw [List.flatMap_append]; rfl)⟩
    rw [val_snoc, hln, low_succ, show k / 32 + (i + 1) = k / 32 + i + 1 by omega, pow_split]; exact up_val (Nat.pow_add _ _ _) hval
  · have k17 := of_decide_eq_false h17
    have hia : i = a.length := by omega
    rw [hia, low_all (Nat.le_refl _), hm.val] at hval
    refine T_exit ?_
    refine T_regionS ?_
    refine Run.one (ok_move rfl rfl) rfl rfl rfl ?_
    refine Run.one (ok_move rfl rfl) rfl rfl rfl ?_
    refine Run.one (ok_buildNat [c] rfl rfl (by decide) rfl (by simp) rfl rfl rfl) rfl rfl rfl ?_
    refine Run.append 0 rfl rfl rfl rfl rfl rfl rfl rfl hq (by rw [flat_u32_length, hln]) flat_u32 (by unfold big; simp; omega) (by unfold big; simp; omega) fun q42 hq42 => ?_
    refine Run.ghost _ rfl (ghost_sl 0 42 rfl rfl hq42 (l := out ++ [c]) (f := u32S) (by simp [hln]) List.flatMap_append.symm flat_u32 (by unfold big; simp; omega)) ?_
    have : IsNat (out ++ [c]) (m * 2 ^ k) := ⟨lim_snoc hlo (by omega), by rw [val_snoc, hln, hia, hval, two_pow_split k, Nat.mul_comm m, Nat.mul_assoc]⟩
    refine Run.one (ok_call rfl rfl (rtrim_spec (by unfold cap; simp; omega))) rfl rfl rfl ?_
    refine Run.one (ok_assign rfl rfl) rfl rfl rfl ?_
    refine Run.nil ?_
    refine T_ret ?_
    exact ⟨_, [], .one (.tmp rfl), List.nil_sublist _, rfl, rfl⟩
theorem up_spec {a : List Nat} {m k : Nat} [hm : IsNat a m] (hk : k ≤ 65536) (hs : a.length + 10000 ≤ cap) : PSpec Tryz.prog G 125 [natS a, intS .i64 k] (natS (dig (m * 2 ^ k))) := by
  unfold cap at hs
  have hsl : k % 32 < 32 := Nat.mod_lt _ (by omega)
  refine fn_spec Tryz.func125 rfl rfl rfl ?_
  refine T_regionS ?_
  refine Run.one (ok_assign rfl rfl) rfl rfl rfl ?_
  refine Run.nil ?_
  refine T_regionS ?_
  refine Run.one (ok_move rfl rfl) rfl rfl rfl ?_
  refine Run.one ((ok_call rfl rfl count_spec).sub (int_eq (n := ((k : Nat) : Int)) (by omega))) rfl rfl rfl ?_
  refine Run.one (ok_assign rfl rfl) rfl rfl rfl ?_
  refine Run.nil ?_
  refine T_regionS ?_
  refine Run.one (ok_move rfl rfl) rfl rfl rfl ?_
  refine Run.one ((ok_quo rfl rfl rfl (by omega) (by omega) (wrap_i64 (by omega) (by omega))).sub (int_eq (n := ((k / 32 : Nat) : Int)) (by omega))) rfl rfl rfl ?_
  refine Run.one (ok_move rfl rfl) rfl rfl rfl ?_
  refine Run.one ((ok_quo rfl rfl rfl (by omega) (by omega) (wrap_i64 (by omega) (by omega))).sub (int_eq (n := ((k / 32 : Nat) : Int)) (by omega))) rfl rfl rfl ?_
  refine Run.one (ok_move rfl rfl) rfl rfl rfl ?_
  refine Run.one (ok_len rfl rfl) rfl rfl rfl ?_
  refine Run.one (ok_ari rfl rfl rfl rfl (wrap_i64 (by omega) (by omega))) rfl rfl rfl ?_
  refine Run.one (ok_ari (z := ((k / 32 + a.length + 1 : Nat) : Int)) rfl rfl rfl (congrArg some (by omega)) (wrap_i64 (by omega) (by omega))) rfl rfl rfl ?_
  refine Run.makeNat (n := k / 32) (c := k / 32 + a.length + 1) rfl rfl rfl rfl rfl rfl rfl (by omega) (by omega) (by unfold cap; omega) fun b13 hb13 => ?_
  refine Run.one (ok_assign rfl rfl) rfl rfl rfl ?_
  refine Run.nil ?_
  refine T_regionS ?_
  refine Run.one (ok_assign rfl rfl) rfl rfl rfl ?_
  refine Run.nil ?_
  refine T_seq ?_
  refine T_regionS ?_
  refine Run.one (ok_move rfl rfl) rfl rfl rfl ?_
  refine Run.one (ok_len rfl rfl) rfl rfl rfl ?_
  refine Run.one (ok_move rfl rfl) rfl rfl rfl ?_
  refine Run.nil ?_
  refine T_block ?_
  refine T_loop4 (fun i q c out => ⟨_, [(24, intS .i64 (i : Nat)), (23, intS .i64 a.length), (22, natS a), (6, intS .u32 (c : Nat)), (5, eqS (rowV q (k / 32 + i))), (1, intS .i64 (k : Nat))], [rowE q 65 1 (k / 32 + i) (out.flatMap u32S)], [], (0, false)⟩)
      (fun i q c out => i ≤ a.length ∧ rowOk q (k / 32 + i) ∧ c < 2 ^ (k % 32) ∧ Lim out ∧ out.length = k / 32 + i ∧ val out + 4294967296 ^ (k / 32 + i) * c = 4294967296 ^ (k / 32) * (2 ^ (k % 32) * low a i)) (fun i q c out => a.length - i)
      0 (some (b13, k / 32 + a.length + 1)) 0 (List.replicate (k / 32) 0) ⟨Nat.zero_le _, hb13, Nat.pow_pos (by omega), lim_replicate _, List.length_replicate, by rw [val_replicate_zero, low_zero, Nat.mul_zero, Nat.mul_zero, Nat.mul_zero]⟩ (ent_h (subG_cons rfl (subG_cons rfl (subG_cons rfl (subG_cons rfl (subG_cons rfl (subG_cons rfl trivial)))))) rfl) ?_
  rintro i q c out ⟨hi, hq, hc, hlo, hln, hval⟩
  have hp2 := p2_le hsl
  refine T_regionS ?_
  refine Run.one (ok_cmp rfl rfl rfl rfl) rfl rfl rfl ?_
  refine Run.nil ?_
  refine T_seq ?_
  refine T_cond rfl rfl (fun h25 => ?_) (fun h25 => ?_)
  · have k25 := of_decide_eq_true h25
    have hx := limb_lt hm.lim i
    obtain ⟨hu1, hu2⟩ := up_lt hx hsl hc
    obtain ⟨hu3, hu4⟩ := up_step (x := limb a i) (by omega) hc
    refine T_skip ?_
    refine T_seq ?_
    refine T_block ?_
    refine T_regionS ?_
    refine Run.one (ok_indexAddr rfl rfl rfl (by omega) (y := limb a i) (limb_get (by omega))) rfl rfl rfl ?_
    refine Run.one (ok_load rfl rfl) rfl rfl rfl ?_
    refine Run.one (ok_assign rfl rfl) rfl rfl rfl ?_
    refine Run.nil ?_
    refine T_regionS ?_
    refine Run.one (ok_move rfl rfl) rfl rfl rfl ?_
    refine Run.one (ok_move rfl rfl) rfl rfl rfl ?_
    refine Run.one ((ok_rem rfl rfl rfl (by omega) (by omega)).sub (int_eq (n := ((k % 32 : Nat) : Int)) (by omega))) rfl rfl rfl ?_
    refine Run.one ((ok_shl rfl rfl rfl (by omega) (by simp [IntKind.bits]; omega)).sub (int_eq (n := ((2 ^ (k % 32) : Nat) : Int)) (by have := shlN 1 (k % 32); rw [Nat.one_mul] at this; refine (congrArg _ this).trans ?_; exact wrap_u32 (by omega) (by omega)))) rfl rfl rfl ?_
    refine Run.one (ok_call rfl rfl (mul32_spec hx (by omega))) rfl rfl rfl ?_
    refine Run.one (ok_move rfl rfl) rfl rfl rfl ?_
    refine Run.one (ok_extract rfl rfl rfl) rfl rfl rfl ?_
    refine Run.one (ok_extract rfl rfl rfl) rfl rfl rfl ?_
    refine Run.one (ok_assign rfl rfl) rfl rfl rfl ?_
    refine Run.one (ok_assign rfl rfl) rfl rfl rfl ?_
    refine Run.nil ?_
    refine T_region ?_
    refine Run.one (ok_move rfl rfl) rfl rfl rfl ?_
    refine Run.one (ok_move rfl rfl) rfl rfl rfl ?_
    refine Run.one (ok_move rfl rfl) rfl rfl rfl ?_
    refine Run.one ((ok_bits rfl (by simp) rfl rfl).sub (int_eq (n := (((limb a i * 2 ^ (k % 32) + c) % 4294967296 : Nat) : Int)) (by rw [bitI_or32 (by omega) (by omega), hu3]))) rfl rfl rfl ?_
    refine Run.one (ok_buildNat [(limb a i * 2 ^ (k % 32) + c) % 4294967296] rfl rfl (by decide) rfl (by simp) rfl rfl rfl) rfl rfl rfl ?_
    refine Run.append 0 rfl rfl rfl rfl rfl rfl rfl rfl hq (by rw [flat_u32_length, hln]) flat_u32 (by unfold big; simp; omega) (by unfold big; simp; omega) fun q35 hq35 => ?_
    refine Run.one ((ok_move rfl rfl).sub (int_eq (n := (((limb a i * 2 ^ (k % 32) + c) / 4294967296 : Nat) : Int)) (by rw [hu4]))) rfl rfl rfl ?_
    refine Run.one (ok_assign rfl rfl) rfl rfl rfl ?_
    refine Run.one (ok_assign rfl rfl) rfl rfl rfl ?_
    refine Run.nil ?_
    refine T_region ?_
    refine Run.one (ok_ari rfl rfl rfl rfl (wrap_i64 (by omega) (by omega))) rfl rfl rfl ?_
    refine Run.one (ok_move rfl rfl) rfl rfl rfl ?_
    refine Run.nil ?_
    refine ⟨i + 1, q35, (limb a i * 2 ^ (k % 32) + c) / 4294967296, out ++ [(limb a i * 2 ^ (k % 32) + c) % 4294967296], ⟨by omega, hq35, hu2, lim_snoc hlo (by omega), by simp [hln]; omega, ?_⟩, by omega, ent_h (subG_cons rfl (subG_cons rfl (subG_cons rfl (subG_cons rfl (subG_cons rfl (subG_cons rfl trivial)))))) (by rw [List.flatMap_append]; rfl)⟩
    rw [val_snoc, hln, low_succ, show k / 32 + (i + 1) = k / 32 + i + 1 by omega, pow_split]; exact up_val (Nat.pow_add _ _ _) hval
  · have k25 := of_decide_eq_false h25
    have hia : i = a.length := by omega
    rw [hia, low_all (Nat.le_refl _), hm.val] at hval
    refine T_exit ?_
    refine T_regionS ?_
    refine Run.one (ok_move rfl rfl) rfl rfl rfl ?_
    refine Run.one (ok_move rfl rfl) rfl rfl rfl ?_
    refine Run.one (ok_buildNat [c] rfl rfl (by decide) rfl (by simp) rfl rfl rfl) rfl rfl rfl ?_
    refine Run.append 0 rfl rfl rfl rfl rfl rfl rfl rfl hq (by rw [flat_u32_length, hln]) flat_u32 (by unfold big; simp; omega) (by unfold big; simp; omega) fun q42 hq42 => ?_
    refine Run.ghost _ rfl (ghost_sl 0 47 rfl rfl hq42 (l := out ++ [c]) (f := u32S) (by simp [hln]) List.flatMap_append.symm flat_u32 (by unfold big; simp; omega)) ?_
    have : IsNat (out ++ [c]) (m * 2 ^ k) := ⟨lim_snoc hlo (by omega), by rw [val_snoc, hln, hia, hval, two_pow_split k, Nat.mul_comm m, Nat.mul_assoc]⟩
    refine Run.one (ok_call rfl rfl (trim_spec (by unfold cap; simp; omega))) rfl rfl rfl ?_
    refine Run.one (ok_assign rfl rfl) rfl rfl rfl ?_
    refine Run.nil ?_
    refine T_ret ?_
    exact ⟨_, [], .one (.tmp rfl), List.nil_sublist _, rfl, rfl⟩
theorem rdown_spec {a : List Nat} {m k : Nat} [hm : IsNat a m] (hk : k ≤ 65536) (hs : a.length ≤ cap) : PSpec Tryz.prog G 86 [natS a, intS .i64 k] (natS (dig (m / 2 ^ k))) := by
  unfold cap at hs
  have hsl : k % 32 < 32 := Nat.mod_lt _ (by omega)
  have hd := div_pow hm.lim k
  rw [hm.val] at hd
  refine fn_spec Tryz.func86 rfl rfl rfl ?_
  refine T_regionS ?_
  refine Run.one (ok_assign rfl rfl) rfl rfl rfl ?_
  refine Run.nil ?_
  refine T_regionS ?_
  refine Run.one (ok_move rfl rfl) rfl rfl rfl ?_
  refine Run.one ((ok_call rfl rfl rcount_spec).sub (int_eq (n := ((k : Nat) : Int)) (by omega))) rfl rfl rfl ?_
  refine Run.one (ok_assign rfl rfl) rfl rfl rfl ?_
  refine Run.nil ?_
  refine T_regionS ?_
  refine Run.ghost _ rfl (ghost_row 65 1) ?_
  refine Run.one (ok_assign rfl rfl) rfl rfl rfl ?_
  refine Run.nil ?_
  refine T_seq ?_
  refine T_regionS ?_
  refine Run.one (ok_move rfl rfl) rfl rfl rfl ?_
  refine Run.one ((ok_quo rfl rfl rfl (by omega) (by omega) (wrap_i64 (by omega) (by omega))).sub (int_eq (n := ((k / 32 + 0 : Nat) : Int)) (by omega))) rfl rfl rfl ?_
  refine Run.one (ok_assign rfl rfl) rfl rfl rfl ?_
  refine Run.nil ?_
  refine T_block ?_
  refine T_loop3 (fun j q out => ⟨_, [(6, intS .i64 (k / 32 + j : Nat)), (5, eqS (rowV q j)), (1, intS .i64 (k : Nat)), (0, natS a)], [rowE q 65 1 j (out.flatMap u32S)], [], (0, false)⟩)
      (fun j q out => (j = 0 ∨ k / 32 + j ≤ a.length) ∧ rowOk q j ∧ Lim out ∧ out.length = j ∧ ∀ t, t < j → limb out t = limb (dig (m / 2 ^ k)) t) (fun j q out => a.length - (k / 32 + j))
      0 none [] ⟨.inl rfl, rfl, lim_nil, rfl, fun t h => by omega⟩ (ent_h (subG_cons rfl (subG_cons rfl (subG_cons rfl (subG_cons rfl trivial)))) rfl) ?_
  rintro j q out ⟨hj, hq, hlo, hln, hz⟩
  refine T_seq ?_
  refine T_regionS ?_
  refine Run.one (ok_move rfl rfl) rfl rfl rfl ?_
  refine Run.one (ok_move rfl rfl) rfl rfl rfl ?_
  refine Run.one (ok_len rfl rfl) rfl rfl rfl ?_
  refine Run.one (ok_cmp rfl rfl rfl rfl) rfl rfl rfl ?_
  refine Run.nil ?_
  refine T_cond rfl rfl (fun h15 => ?_) (fun h15 => ?_)
  · have k15 := of_decide_eq_true h15
    have hx := limb_lt hm.lim (k / 32 + j)
    have hy := limb_lt hm.lim (k / 32 + j + 1)
    obtain ⟨v, hv⟩ : ∃ v, v = limb a (k / 32 + j) + 4294967296 * limb a (k / 32 + j + 1) := ⟨_, rfl⟩
    have hdg := down_digit hm.lim (w := k / 32) (s := k % 32) (j := j) (by omega)
    rw [← hd, ← hv] at hdg
    refine T_skip ?_
    refine T_seq ?_
    refine T_block ?_
    refine T_regionS ?_
    refine Run.one (ok_move rfl rfl) rfl rfl rfl ?_
    refine Run.one (ok_move rfl rfl) rfl rfl rfl ?_
    refine Run.one (ok_indexAddr rfl rfl rfl (by omega) (y := limb a (k / 32 + j)) (limb_get (by omega))) rfl rfl rfl ?_
    refine Run.one (ok_load rfl rfl) rfl rfl rfl ?_
    refine Run.one (ok_conv rfl rfl (wrap_u64 (by omega) (by omega))) rfl rfl rfl ?_
    refine Run.one (ok_assign rfl rfl) rfl rfl rfl ?_
    refine Run.nil ?_
    refine T_seq ?_
    refine T_regionS ?_
    refine Run.one (ok_move rfl rfl) rfl rfl rfl ?_
    refine Run.one (ok_ari (z := ((k / 32 + j + 1 : Nat) : Int)) rfl rfl rfl (congrArg some (by omega)) (wrap_i64 (by omega) (by omega))) rfl rfl rfl ?_
    refine Run.one (ok_move rfl rfl) rfl rfl rfl ?_
    refine Run.one (ok_len rfl rfl) rfl rfl rfl ?_
    refine Run.one (ok_cmp rfl rfl rfl rfl) rfl rfl rfl ?_
    refine Run.nil ?_
    refine T_cond rfl rfl (fun h27 => ?_) (fun h27 => ?_)
    · have k27 := of_decide_eq_true h27
      refine T_region ?_
      refine Run.one (ok_move rfl rfl) rfl rfl rfl ?_
      refine Run.one (ok_move rfl rfl) rfl rfl rfl ?_
      refine Run.one (ok_move rfl rfl) rfl rfl rfl ?_
      refine Run.one (ok_ari (z := ((k / 32 + j + 1 : Nat) : Int)) rfl rfl rfl (congrArg some (by omega)) (wrap_i64 (by omega) (by omega))) rfl rfl rfl ?_
      refine Run.one (ok_indexAddr rfl rfl rfl (by omega) (y := limb a (k / 32 + j + 1)) (limb_get (by omega))) rfl rfl rfl ?_
      refine Run.one (ok_load rfl rfl) rfl rfl rfl ?_
      refine Run.one (ok_conv rfl rfl (wrap_u64 (by omega) (by omega))) rfl rfl rfl ?_
      refine Run.one ((ok_shl rfl rfl rfl (by omega) (by simp [IntKind.bits])).sub (int_eq (n := ((4294967296 * limb a (k / 32 + j + 1) : Nat) : Int)) ((wrap_u64 (by simp; omega) (by simp; omega)).trans (by simp; omega)))) rfl rfl rfl ?_
      refine Run.one ((ok_bits rfl (by simp) rfl rfl).sub (int_eq (n := ((v : Nat) : Int)) (by rw [bitI_or (by omega) (by omega), Nat.or_comm, or_high hx]; omega))) rfl rfl rfl ?_
      refine Run.one (ok_assign rfl rfl) rfl rfl rfl ?_
      refine Run.nil ?_
      refine T_region ?_
      refine Run.one (ok_move rfl rfl) rfl rfl rfl ?_
      refine Run.one ((ok_move rfl rfl).sub (int_eq (n := ((v : Nat) : Int)) (by omega))) rfl rfl rfl ?_
      refine Run.one (ok_move rfl rfl) rfl rfl rfl ?_
      refine Run.one ((ok_rem rfl rfl rfl (by omega) (by omega)).sub (int_eq (n := ((k % 32 : Nat) : Int)) (by omega))) rfl rfl rfl ?_
      refine Run.one (ok_conv rfl rfl (wrap_u64 (by omega) (by omega))) rfl rfl rfl ?_
      refine Run.one ((ok_shr rfl rfl rfl (by omega) (by simp [IntKind.bits]; omega)).sub (int_eq (shrN v (k % 32)))) rfl rfl rfl ?_
      refine Run.one (ok_conv (z := ((limb (dig (m / 2 ^ k)) j : Nat) : Int)) rfl rfl (wrap_u32_mod.trans (by rw [hdg]; rfl))) rfl rfl rfl ?_
      refine Run.one (ok_buildNat [limb (dig (m / 2 ^ k)) j] rfl rfl (by decide) rfl (by simp) rfl rfl rfl) rfl rfl rfl ?_
      refine Run.append 0 rfl rfl rfl rfl rfl rfl rfl rfl hq (by rw [flat_u32_length, hln]) flat_u32 (by unfold big; simp; omega) (by unfold big; simp; omega) fun q45 hq45 => ?_
      refine Run.one (ok_assign rfl rfl) rfl rfl rfl ?_
      refine Run.nil ?_
      refine T_region ?_
      refine Run.one (ok_move rfl rfl) rfl rfl rfl ?_
      refine Run.one (ok_ari (z := ((k / 32 + (j + 1) : Nat) : Int)) rfl rfl rfl (congrArg some (by omega)) (wrap_i64 (by omega) (by omega))) rfl rfl rfl ?_
      refine Run.one (ok_assign rfl rfl) rfl rfl rfl ?_
      refine Run.nil ?_
      exact ⟨j + 1, q45, out ++ [limb (dig (m / 2 ^ k)) j], ⟨by omega, hq45, lim_snoc hlo (limb_lt (lim_dig _) _), by simp [hln], fun t ht => limb_snoc (f := limb (dig (m / 2 ^ k))) hln hz ht⟩, by omega, ent_h (subG_cons rfl (subG_cons rfl (subG_cons rfl (subG_cons rfl trivial)))) (by rw [List.flatMap_append]; rfl)⟩
    · have k27 := of_decide_eq_false h27
      have hy0 : limb a (k / 32 + j + 1) = 0 := limb_out (by omega)
      refine T_skip ?_
      refine T_region ?_
      refine Run.one (ok_move rfl rfl) rfl rfl rfl ?_
      refine Run.one ((ok_move rfl rfl).sub (int_eq (n := ((v : Nat) : Int)) (by omega))) rfl rfl rfl ?_
      refine Run.one (ok_move rfl rfl) rfl rfl rfl ?_
      refine Run.one ((ok_rem rfl rfl rfl (by omega) (by omega)).sub (int_eq (n := ((k % 32 : Nat) : Int)) (by omega))) rfl rfl rfl ?_
      refine Run.one (ok_conv rfl rfl (wrap_u64 (by omega) (by omega))) rfl rfl rfl ?_
      refine Run.one ((ok_shr rfl rfl rfl (by omega) (by simp [IntKind.bits]; omega)).sub (int_eq (shrN v (k % 32)))) rfl rfl rfl ?_
      refine Run.one (ok_conv (z := ((limb (dig (m / 2 ^ k)) j : Nat) : Int)) rfl rfl (wrap_u32_mod.trans (by rw [hdg]; rfl))) rfl rfl rfl ?_
      refine Run.one (ok_buildNat [limb (dig (m / 2 ^ k)) j] rfl rfl (by decide) rfl (by simp) rfl rfl rfl) rfl rfl rfl ?_
      refine Run.append 0 rfl rfl rfl rfl rfl rfl rfl rfl hq (by rw [flat_u32_length, hln]) flat_u32 (by unfold big; simp; omega) (by unfold big; simp; omega) fun q45 hq45 => ?_
      refine Run.one (ok_assign rfl rfl) rfl rfl rfl ?_
      refine Run.nil ?_
      refine T_region ?_
      refine Run.one (ok_move rfl rfl) rfl rfl rfl ?_
      refine Run.one (ok_ari (z := ((k / 32 + (j + 1) : Nat) : Int)) rfl rfl rfl (congrArg some (by omega)) (wrap_i64 (by omega) (by omega))) rfl rfl rfl ?_
      refine Run.one (ok_assign rfl rfl) rfl rfl rfl ?_
      refine Run.nil ?_
      exact ⟨j + 1, q45, out ++ [limb (dig (m / 2 ^ k)) j], ⟨by omega, hq45, lim_snoc hlo (limb_lt (lim_dig _) _), by simp [hln], fun t ht => limb_snoc (f := limb (dig (m / 2 ^ k))) hln hz ht⟩, by omega, ent_h (subG_cons rfl (subG_cons rfl (subG_cons rfl (subG_cons rfl trivial)))) (by rw [List.flatMap_append]; rfl)⟩
  · have k15 := of_decide_eq_false h15
    refine T_exit ?_
    refine T_regionS ?_
    have hql : (dig (m / 2 ^ k)).length ≤ a.length - k / 32 := dig_length_le (by
      rw [hd]
      refine bd_le (val_lt (lim_drop hm.lim (k / 32))) (Nat.div_le_self _ _) ?_
      simp)
    have : IsNat out (m / 2 ^ k) := ⟨hlo, by rw [val_eq_of (n := j) (by omega) (by omega) hz, val_dig]⟩
    refine Run.ghost _ rfl (ghost_sl 0 5 rfl rfl hq (l := out) (f := u32S) hln rfl flat_u32 (by unfold big; omega)) ?_
    refine Run.one (ok_move rfl rfl) rfl rfl rfl ?_
    refine Run.one (ok_call rfl rfl (rtrim_spec (by unfold cap; omega))) rfl rfl rfl ?_
    refine Run.one (ok_assign rfl rfl) rfl rfl rfl ?_
    refine Run.nil ?_
    refine T_ret ?_
    exact ⟨_, [], .one (.tmp rfl), List.nil_sublist _, rfl, rfl⟩
end Go.Proofs
