/- straitref03.Div: bit by bit. -/
import Derived.Test.YtijnlobgmfmhjaaGreatDoorSno
namespace Go.Proofs
open Go Go.Sv Num
variable {G : Imm}
theorem bitI_and32 {x y : Nat} (hx : x < 4294967296) (hy : y < 4294967296) : bitI .and .u32 x y = ((x &&& y : Nat) : Int) := by
  have h : x &&& y < 2 ^ 32 := Nat.and_lt_two_pow _ (by simpa using hy)
  have e1 : (BitVec.ofInt 32 (x : Int)).toNat = x := by simp; omega
  have e2 : (BitVec.ofInt 32 (y : Int)).toNat = y := by simp; omega
  show IntKind.u32.wrap ((BitVec.ofInt 32 (x : Int) &&& BitVec.ofInt 32 (y : Int)).toNat : Nat) = _
  rw [BitVec.toNat_and, e1, e2, wrap_u32 (by omega) (by simp at h; omega)]
theorem p32 {s : Nat} (hs : s < 32) : 4294967296 = 2 ^ s * (2 * 2 ^ (31 - s)) := by
  rw [← Nat.pow_succ', ← Nat.pow_add, show s + (31 - s).succ = 32 by omega]
theorem bit_limb {a : List Nat} (ha : Lim a) (p : Nat) : limb a (p / 32) / 2 ^ (p % 32) % 2 = val a / 2 ^ p % 2 := by
  have hs : p % 32 < 32 := Nat.mod_lt _ (by decide)
  rw [limb_digit ha, two_pow_split p, ← Nat.div_div_eq_div_mul]
  generalize val a / 4294967296 ^ (p / 32) = y
  rw [p32 hs, Nat.mod_mul_right_div_self, Nat.mod_mul_right_mod]
theorem low_limb {q : List Nat} (hq : Lim q) {Q p : Nat} (h : val q = Q * 2 ^ (p + 1)) : limb q (p / 32) % 2 ^ (p % 32 + 1) = 0 ∧ limb q (p / 32) + 2 ^ (p % 32) < 4294967296 := by
  have hs : p % 32 < 32 := Nat.mod_lt _ (by decide)
  have hp : 0 < 4294967296 ^ (p / 32) := Nat.pow_pos (by decide)
  have e0 : 4294967296 = 2 ^ (p % 32 + 1) * 2 ^ (31 - p % 32) := by rw [← Nat.pow_add, show p % 32 + 1 + (31 - p % 32) = 32 by omega]
  have e1 : limb q (p / 32) = 2 ^ (p % 32 + 1) * (Q % 2 ^ (31 - p % 32)) := by
    rw [limb_digit hq, h, Nat.pow_succ, two_pow_split p, show Q * (4294967296 ^ (p / 32) * 2 ^ (p % 32) * 2) = 4294967296 ^ (p / 32) * (2 ^ (p % 32 + 1) * Q) by rw [Nat.pow_succ]; ac_rfl, Nat.mul_div_cancel_left _ hp, e0, Nat.mul_mod_mul_left]
  refine ⟨by rw [e1, Nat.mul_mod_right], ?_⟩
  have h1 : Q % 2 ^ (31 - p % 32) + 1 ≤ 2 ^ (31 - p % 32) := Nat.mod_lt _ (Nat.two_pow_pos _)
  have h2 := Nat.mul_le_mul_left (2 ^ (p % 32 + 1)) h1
  rw [← e0, Nat.mul_add, ← e1] at h2
  have h3 : 2 ^ (p % 32) < 2 ^ (p % 32 + 1) := Nat.pow_lt_pow_right (by decide) (by omega)
  omega
theorem rdiv_step {X X' n bt : Nat} (hn : 0 < n) (hX : X' = 2 * X + bt) (hb : bt < 2) :
    (2 * (X % n) + bt < n → X' / n = 2 * (X / n) ∧ X' % n = 2 * (X % n) + bt) ∧ (n ≤ 2 * (X % n) + bt → X' / n = 2 * (X / n) + 1 ∧ X' % n = 2 * (X % n) + bt - n) := by
  have h1 := Nat.div_add_mod X n
  have h2 := Nat.mod_lt X hn
  have h3 : X' = n * (2 * (X / n)) + (2 * (X % n) + bt) := by rw [hX, Nat.mul_left_comm]; omega
  refine ⟨fun h => ?_, fun h => ?_⟩
  · rw [h3, Nat.mul_add_div hn, Nat.mul_add_mod, Nat.div_eq_of_lt h, Nat.mod_eq_of_lt h]; exact ⟨rfl, rfl⟩
  · have h4 : X' = n * (2 * (X / n) + 1) + (2 * (X % n) + bt - n) := by rw [h3, Nat.mul_add n]; omega
    have h5 : 2 * (X % n) + bt - n < n := by omega
    rw [h4, Nat.mul_add_div hn, Nat.mul_add_mod, Nat.div_eq_of_lt h5, Nat.mod_eq_of_lt h5]; exact ⟨rfl, rfl⟩
theorem half_bit (m p : Nat) : m / 2 ^ p = 2 * (m / 2 ^ (p + 1)) + m / 2 ^ p % 2 := by
  rw [Nat.pow_succ, ← Nat.div_div_eq_div_mul]; omega
theorem rdiv_spec {a b : List Nat} {m n : Nat} [hm : IsNat a m] [hn : IsNat b n] (hs : a.length + 10000 ≤ cap) (hs2 : b.length + 10000 ≤ cap) : PSpec Tryz.prog G 68 [natS a, natS b] (tupS [natS (dig (m / n)), natS (dig (if n = 0 then 0 else m % n)), intS .i64 (if n = 0 then 30 else 0)]) := by
  unfold cap at hs hs2
  have hlb : (dig n).length ≤ b.length := dig_length_le (by rw [← hn.val]; exact val_lt hn.lim)
  refine fn_spec Tryz.func68 rfl rfl rfl ?_
  refine T_regionS ?_
  refine Run.one (ok_assign rfl rfl) rfl rfl rfl ?_
  refine Run.one (ok_assign rfl rfl) rfl rfl rfl ?_
  refine Run.one (ok_assign rfl rfl) rfl rfl rfl ?_
  refine Run.nil ?_
  refine T_seq ?_
  refine T_regionS ?_
  refine Run.one (ok_move rfl rfl) rfl rfl rfl ?_
  refine Run.one (ok_call rfl rfl (rtrim_spec (by unfold cap; omega))) rfl rfl rfl ?_
  refine Run.one (ok_len rfl rfl) rfl rfl rfl ?_
  refine Run.one (ok_cmp rfl rfl rfl rfl) rfl rfl rfl ?_
  refine Run.nil ?_
  refine T_cond rfl rfl (fun h16 => ?_) (fun h16 => ?_)
  · have k16 := beq_iff_eq.1 h16
    have hn0 : n = 0 := dig_len_zero.1 (by omega)
    refine T_regionS ?_
    refine Run.one ((ok_assign rfl rfl).sub (nil_nat (l := dig (m / n)) (dig_eq_nil.2 (by rw [hn0]; exact Nat.div_zero m)))) rfl rfl rfl ?_
    refine Run.one ((ok_assign rfl rfl).sub (nil_nat (l := dig (if n = 0 then 0 else m % n)) (by rw [if_pos hn0]; exact dig_zero))) rfl rfl rfl ?_
    refine Run.one (ok_assign rfl rfl) rfl rfl rfl ?_
    refine Run.nil ?_
    refine T_ret ?_
    exact ⟨_, [], .many (.cons (.tmp rfl) (.cons (.tmp rfl) (.cons (.tmp rfl) (.nil)))), List.nil_sublist _, by simp only [if_pos hn0], rfl⟩
  · have k16 := beq_eq_false_iff_ne.1 h16
    have hn0 : n ≠ 0 := fun h => k16 (by rw [h, dig_zero]; rfl)
    have hn1 : 0 < n := Nat.pos_of_ne_zero hn0
    have hL : (dig n).length ≠ 0 := fun h => hn0 (dig_len_zero.1 h)
    obtain ⟨fr, hfr⟩ : ∃ fr, fr = a.length + 1 - (dig n).length := ⟨_, rfl⟩
    have hfa : fr ≤ a.length := by omega
    have htop : m / 2 ^ (32 * fr) = val (a.drop fr) := by rw [show 2 ^ (32 * fr) = 4294967296 ^ fr from by rw [Nat.pow_mul], ← hm.val]; exact val_shift hm.lim fr
    have htl : m / 2 ^ (32 * fr) < n := by
      rw [htop]
      refine Nat.lt_of_lt_of_le (val_lt (lim_drop hm.lim fr)) (Nat.le_trans (Nat.pow_le_pow_right (by decide) ?_) (dig_low hn0))
      rw [List.length_drop]; omega
    refine T_skip ?_
    refine T_regionS ?_
    refine Run.one (ok_move rfl rfl) rfl rfl rfl ?_
    refine Run.one (ok_len rfl rfl) rfl rfl rfl ?_
    refine Run.makeNat (n := a.length) (c := a.length) rfl rfl rfl rfl rfl rfl rfl (Nat.le_refl _) (by omega) (by unfold cap; omega) fun b19 hb19 => ?_
    refine Run.one (ok_assign rfl rfl) rfl rfl rfl ?_
    refine Run.nil ?_
    refine T_regionS ?_
    refine Run.one (ok_move rfl rfl) rfl rfl rfl ?_
    refine Run.one (ok_len rfl rfl) rfl rfl rfl ?_
    refine Run.one (ok_move rfl rfl) rfl rfl rfl ?_
    refine Run.one (ok_call rfl rfl (rtrim_spec (by unfold cap; omega))) rfl rfl rfl ?_
    refine Run.one (ok_len rfl rfl) rfl rfl rfl ?_
    refine Run.one (ok_ari (z := ((a.length : Nat) : Int) - (((dig n).length : Nat) : Int)) rfl rfl rfl (congrArg some (by omega)) (wrap_i64 (by omega) (by omega))) rfl rfl rfl ?_
    refine Run.one (ok_ari (z := ((a.length : Nat) : Int) - (((dig n).length : Nat) : Int) + 1) rfl rfl rfl (congrArg some (by omega)) (wrap_i64 (by omega) (by omega))) rfl rfl rfl ?_
    refine Run.one ((ok_max rfl rfl rfl).sub (int_eq (n := ((fr : Nat) : Int)) (by omega))) rfl rfl rfl ?_
    refine Run.one (ok_assign rfl rfl) rfl rfl rfl ?_
    refine Run.nil ?_
    refine T_regionS ?_
    refine Run.buildRow rfl rfl rfl rfl rfl rfl (by decide) rfl (.inl rfl) rfl rfl fun b28 hb28 => ?_
    refine Run.one (ok_move rfl rfl) rfl rfl rfl ?_
    refine Run.one (ok_move rfl rfl) rfl rfl rfl ?_
    refine Run.one ((ok_slice (lo := fr) (hi := a.length) (m := 0) rfl rfl (.inr ⟨_, _, rfl, rfl⟩) (.inl ⟨rfl, rfl, rfl⟩) (.inl rfl) (by omega) (Nat.le_refl _)).sub (show ∀ I v, _ → (natS (a.drop fr)).den I v from fun I v h => by rw [List.take_length] at h; exact h)) rfl rfl rfl ?_
    refine Run.append 0 rfl rfl rfl rfl rfl rfl rfl rfl hb28 rfl flat_u32 (by unfold big; simp; omega) (by unfold big; simp; omega) fun q32 hq32 => ?_
    refine Run.ghost _ rfl (ghost_sl 0 32 rfl rfl hq32 (l := a.drop fr) (f := u32S) (by simp) rfl flat_u32 (by unfold big; simp; omega)) ?_
    have i1 : IsNat (a.drop fr) (m / 2 ^ (32 * fr)) := ⟨lim_drop hm.lim fr, htop.symm⟩
    refine Run.one (ok_call rfl rfl (rtrim_spec (by unfold cap; simp; omega))) rfl rfl rfl ?_
    refine Run.one (ok_assign rfl rfl) rfl rfl rfl ?_
    refine Run.nil ?_
    refine T_seq ?_
    refine T_regionS ?_
    refine Run.one (ok_move rfl rfl) rfl rfl rfl ?_
    refine Run.one (ok_ari (z := ((32 * fr : Nat) : Int)) rfl rfl rfl (congrArg some (by omega)) (wrap_i64 (by omega) (by omega))) rfl rfl rfl ?_
    refine Run.one (ok_ari (z := ((32 * fr : Nat) : Int) - 1) rfl rfl rfl (congrArg some (by omega)) (wrap_i64 (by omega) (by omega))) rfl rfl rfl ?_
    refine Run.one (ok_assign rfl rfl) rfl rfl rfl ?_
    refine Run.nil ?_
    refine T_block ?_
    refine T_loop2 (fun g q => ⟨_, [(10, intS .i64 (((g : Nat) : Int) - 1)), (9, natS (dig (m / 2 ^ g % n))), (7, eqS (rowV (some (b19, a.length)) a.length)), (1, natS b), (0, natS a)], [rowE (some (b19, a.length)) 65 1 a.length (q.flatMap u32S)], [], (0, false)⟩)
        (fun g q => g ≤ 32 * fr ∧ Lim q ∧ q.length = a.length ∧ val q = m / 2 ^ g / n * 2 ^ g) (fun g q => g)
        (32 * fr) (List.replicate a.length 0) ⟨Nat.le_refl _, lim_replicate _, List.length_replicate, by rw [val_replicate_zero, Nat.div_eq_of_lt htl, Nat.zero_mul]⟩ (ent_h (subG_cons rfl (subG_as rfl (congrArg (fun x => natS (dig x)) (Nat.mod_eq_of_lt htl).symm) (subG_cons rfl (subG_cons rfl (subG_cons rfl (trivial)))))) rfl) ?_
    rintro g q ⟨hg, hlo, hln, hval⟩
    refine T_seq ?_
    refine T_regionS ?_
    refine Run.one (ok_move rfl rfl) rfl rfl rfl ?_
    refine Run.one (ok_cmp rfl rfl rfl rfl) rfl rfl rfl ?_
    refine Run.nil ?_
    refine T_cond rfl rfl (fun h38 => ?_) (fun h38 => ?_)
    · have k38 := of_decide_eq_true h38
      obtain ⟨p, rfl⟩ : ∃ p, g = p + 1 := ⟨g - 1, by omega⟩
      have hsl : p % 32 < 32 := Nat.mod_lt _ (by decide)
      have hp2 := p2_le hsl
      obtain ⟨r, hr⟩ : ∃ r, r = m / 2 ^ (p + 1) % n := ⟨_, rfl⟩
      rw [← hr]
      have hrn : r < n := by rw [hr]; exact Nat.mod_lt _ hn1
      have hrl : (dig r).length ≤ b.length := Nat.le_trans (dig_length_le (Nat.lt_trans hrn (lt_of_dig_length (Nat.le_refl _)))) hlb
      obtain ⟨bt, hbt⟩ : ∃ bt, bt = m / 2 ^ p % 2 := ⟨_, rfl⟩
      have hbt2 : bt < 2 := by rw [hbt]; exact Nat.mod_lt _ (by decide)
      have hstep := rdiv_step (X := m / 2 ^ (p + 1)) (X' := m / 2 ^ p) (n := n) (bt := bt) hn1 (by rw [hbt]; exact half_bit m p) hbt2
      rw [← hr] at hstep
      have hwl : p / 32 < a.length := by omega
      have hbl := bit_limb hm.lim p
      rw [hm.val, ← hbt] at hbl
      have hax := limb_lt hm.lim (p / 32)
      have hqx := limb_lt hlo (p / 32)
      obtain ⟨hq0, hq1⟩ := low_limb hlo hval
      have hax2 : limb a (p / 32) / 2 ^ (p % 32) ≤ limb a (p / 32) := Nat.div_le_self _ _
      refine T_skip ?_
      refine T_seqQ (K := fun S1 => ∃ q2, Lim q2 ∧ q2.length = a.length ∧ val q2 = m / 2 ^ p / n * 2 ^ p ∧ Ent S1 ⟨85, [(9, natS (dig (m / 2 ^ p % n))), (10, intS .i64 (((p + 1 : Nat) : Int) - 1)), (7, eqS (rowV (some (b19, a.length)) a.length)), (1, natS b), (0, natS a)], [rowE (some (b19, a.length)) 65 1 a.length (q2.flatMap u32S)], [], (0, false)⟩) ?_ ?_
      · refine T_block ?_
        refine T_regionS ?_
        refine Run.one (ok_move rfl rfl) rfl rfl rfl ?_
        refine Run.one (ok_call rfl rfl (rup_spec (k := 1) (by omega) (by unfold cap; omega))) rfl rfl rfl ?_
        refine Run.one (ok_assign rfl rfl) rfl rfl rfl ?_
        refine Run.nil ?_
        refine T_seqQ (K := fun S1 => Ent S1 (⟨85, [(9, natS (dig (2 * r + bt))), (10, intS .i64 (((p + 1 : Nat) : Int) - 1)), (7, eqS (rowV (some (b19, a.length)) a.length)), (1, natS b), (0, natS a)], [rowE (some (b19, a.length)) 65 1 a.length (q.flatMap u32S)], [], (0, false)⟩)) ?_ ?_
        · refine T_regionS ?_
          refine Run.one (ok_move rfl rfl) rfl rfl rfl ?_
          refine Run.one ((ok_move rfl rfl).sub (int_eq (show ((p + 1 : Nat) : Int) - 1 = ((p : Nat) : Int) by omega))) rfl rfl rfl ?_
          refine Run.one ((ok_quo rfl rfl rfl (by omega) (by omega) (wrap_i64 (by omega) (by omega))).sub (int_eq (n := ((p / 32 : Nat) : Int)) (by omega))) rfl rfl rfl ?_
          refine Run.one (ok_indexAddr rfl rfl rfl (by omega) (y := limb a (p / 32)) (limb_get hwl)) rfl rfl rfl ?_
          refine Run.one (ok_load rfl rfl) rfl rfl rfl ?_
          refine Run.one ((ok_move rfl rfl).sub (int_eq (show ((p + 1 : Nat) : Int) - 1 = ((p : Nat) : Int) by omega))) rfl rfl rfl ?_
          refine Run.one ((ok_rem rfl rfl rfl (by omega) (by omega)).sub (int_eq (n := ((p % 32 : Nat) : Int)) (by omega))) rfl rfl rfl ?_
          refine Run.one (ok_conv rfl rfl (wrap_u64 (by omega) (by omega))) rfl rfl rfl ?_
          refine Run.one ((ok_shr rfl rfl rfl (by omega) (by simp [IntKind.bits]; omega)).sub (int_eq (shrN _ _))) rfl rfl rfl ?_
          refine Run.one ((ok_bits rfl (by simp) rfl rfl).sub (int_eq (n := ((bt : Nat) : Int)) ((bitI_and32 (y := 1) (by omega) (by decide)).trans (by rw [Nat.and_one_is_mod, hbl])))) rfl rfl rfl ?_
          refine Run.one (ok_cmp rfl rfl rfl rfl) rfl rfl rfl ?_
          refine Run.nil ?_
          refine T_cond rfl rfl (fun h53 => ?_) (fun h53 => ?_)
          · have k53 := beq_iff_eq.1 h53
            refine T_region ?_
            have i2 : Sz (dig (r * 2 ^ 1)) (b.length + 1) := ⟨dig_length_le (by have h9 := lt_of_dig_length hrl; rw [pow_split, Nat.pow_one]; exact Nat.lt_of_lt_of_le (Nat.mul_lt_mul_of_pos_right h9 (by decide)) (Nat.mul_le_mul_left _ (by decide)))⟩
            refine Run.one (ok_move rfl rfl) rfl rfl rfl ?_
            refine Run.one (ok_buildNat [1] rfl rfl (by decide) rfl (by simp) rfl rfl rfl) rfl rfl rfl ?_
            refine Run.one (ok_buildSlice rfl rfl (by decide) rfl (by simp) rfl rfl) rfl rfl rfl ?_
            refine Run.one (ok_call rfl rfl (radd2_spec (by unfold cap; omega))) rfl rfl rfl ?_
            refine Run.one (ok_assign rfl rfl) rfl rfl rfl ?_
            refine Run.nil ?_
            exact ent_g (subG_as rfl (congrArg (fun x => natS (dig x)) (by omega)) (subG_cons rfl (subG_cons rfl (subG_cons rfl (subG_cons rfl (trivial))))))
          · have k53 := beq_eq_false_iff_ne.1 h53
            refine T_skip ?_
            exact ent_g (subG_as rfl (congrArg (fun x => natS (dig x)) (by omega)) (subG_cons rfl (subG_cons rfl (subG_cons rfl (subG_cons rfl (trivial))))))
        · intro S1 hS1
          refine T_pre hS1 ?_
          refine T_regionS ?_
          refine Run.one (ok_move rfl rfl) rfl rfl rfl ?_
          refine Run.one (ok_move rfl rfl) rfl rfl rfl ?_
          refine Run.one (ok_call rfl rfl (rsub_spec (by have h9 : (dig (2 * r + bt)).length ≤ b.length + 1 := dig_length_le (by have h9 := lt_of_dig_length hrl; rw [pow_split]; omega); unfold cap; omega))) rfl rfl rfl ?_
          refine Run.one (ok_move rfl rfl) rfl rfl rfl ?_
          refine Run.one (ok_extract rfl rfl rfl) rfl rfl rfl ?_
          refine Run.one (ok_extract rfl rfl rfl) rfl rfl rfl ?_
          refine Run.one (ok_assign rfl rfl) rfl rfl rfl ?_
          refine Run.one (ok_assign rfl rfl) rfl rfl rfl ?_
          refine Run.nil ?_
          refine T_regionS ?_
          refine Run.one (ok_move rfl rfl) rfl rfl rfl ?_
          refine Run.one (ok_cmp rfl rfl rfl rfl) rfl rfl rfl ?_
          refine Run.nil ?_
          refine T_cond rfl rfl (fun h65 => ?_) (fun h65 => ?_)
          · have k65 := beq_iff_eq.1 h65
            have hge : n ≤ 2 * r + bt := by rcases Nat.lt_or_ge (2 * r + bt) n with h | h; rw [if_pos h] at k65; cases k65; exact h
            obtain ⟨hs1, hs2⟩ := hstep.2 hge
            have hv2 : val (q.set (p / 32) (limb q (p / 32) + 2 ^ (p % 32))) = m / 2 ^ p / n * 2 ^ p := by
              have hvs := val_set (l := q) (j := p / 32) (limb q (p / 32) + 2 ^ (p % 32)) (by omega)
              rw [hs1, Nat.add_mul, Nat.one_mul, Nat.mul_comm 2, Nat.mul_assoc, ← Nat.pow_succ', ← hval, two_pow_split p]
              rw [Nat.mul_add] at hvs; omega
            refine T_regionS ?_
            refine Run.one (ok_move rfl rfl) rfl rfl rfl ?_
            refine Run.one (ok_assign rfl rfl) rfl rfl rfl ?_
            refine Run.nil ?_
            refine T_region ?_
            refine Run.one (ok_move rfl rfl) rfl rfl rfl ?_
            refine Run.one ((ok_move rfl rfl).sub (int_eq (show ((p + 1 : Nat) : Int) - 1 = ((p : Nat) : Int) by omega))) rfl rfl rfl ?_
            refine Run.one ((ok_quo rfl rfl rfl (by omega) (by omega) (wrap_i64 (by omega) (by omega))).sub (int_eq (n := ((p / 32 : Nat) : Int)) (by omega))) rfl rfl rfl ?_
            refine Run.one (ok_move rfl rfl) rfl rfl rfl ?_
            refine Run.one ((ok_move rfl rfl).sub (int_eq (show ((p + 1 : Nat) : Int) - 1 = ((p : Nat) : Int) by omega))) rfl rfl rfl ?_
            refine Run.one ((ok_quo rfl rfl rfl (by omega) (by omega) (wrap_i64 (by omega) (by omega))).sub (int_eq (n := ((p / 32 : Nat) : Int)) (by omega))) rfl rfl rfl ?_
            refine Run.one (ok_indexRow (i := p / 32) rfl rfl rfl (by omega)) rfl rfl rfl ?_
            refine Run.one (ok_loadRow 0 rfl rfl rfl (by omega)) rfl rfl rfl ?_
            refine Run.one ((ok_move rfl rfl).sub (int_eq (show ((p + 1 : Nat) : Int) - 1 = ((p : Nat) : Int) by omega))) rfl rfl rfl ?_
            refine Run.one ((ok_rem rfl rfl rfl (by omega) (by omega)).sub (int_eq (n := ((p % 32 : Nat) : Int)) (by omega))) rfl rfl rfl ?_
            refine Run.one (ok_conv rfl rfl (wrap_u64 (by omega) (by omega))) rfl rfl rfl ?_
            refine Run.one ((ok_shl rfl rfl rfl (by omega) (by simp [IntKind.bits]; omega)).sub (int_eq (n := ((2 ^ (p % 32) : Nat) : Int)) (by have := shlN 1 (p % 32); rw [Nat.one_mul] at this; refine (congrArg _ this).trans ?_; exact wrap_u32 (by omega) (by omega)))) rfl rfl rfl ?_
            refine Run.one ((ok_bits rfl (by simp) rfl rfl).sub (int_eq (n := ((limb q (p / 32) + 2 ^ (p % 32) : Nat) : Int)) (by rw [bitI_or32 (by omega) (by omega), or_add hq0 (Nat.pow_lt_pow_right (by decide) (by omega))]))) rfl rfl rfl ?_
            refine Run.one (ok_indexRow (i := p / 32) rfl rfl rfl (by omega)) rfl rfl rfl ?_
            refine Run.storeRow 0 rfl rfl rfl rfl rfl (by omega) rfl rfl ?_
            refine Run.nil ?_
            exact ⟨q.set (p / 32) (limb q (p / 32) + 2 ^ (p % 32)), lim_set hlo hq1, by rw [List.length_set]; exact hln, hv2, ent_h (subG_as rfl (congrArg (fun x => natS (dig x)) hs2.symm) (subG_cons rfl (subG_cons rfl (subG_cons rfl (subG_cons rfl (trivial)))))) rfl⟩
          · have k65 := beq_eq_false_iff_ne.1 h65
            have hge : 2 * r + bt < n := by rcases Nat.lt_or_ge (2 * r + bt) n with h | h; exact h; rw [if_neg (by omega)] at k65; exact absurd rfl k65
            obtain ⟨hs1, hs2⟩ := hstep.1 hge
            have hv2 : val q = m / 2 ^ p / n * 2 ^ p := by rw [hs1, Nat.mul_comm 2, Nat.mul_assoc, ← Nat.pow_succ', ← hval]
            have hse : 2 * r + bt = 2 * r + bt := rfl
            refine T_skip ?_
            exact ⟨q, hlo, hln, hv2, ent_h (subG_as rfl (congrArg (fun x => natS (dig x)) hs2.symm) (subG_cons rfl (subG_cons rfl (subG_cons rfl (subG_cons rfl (trivial)))))) rfl⟩
      · rintro S1 ⟨q2, hlo2, hln2, hval2, hS1⟩
        refine T_pre hS1 ?_
        refine T_region ?_
        refine Run.one (ok_move rfl rfl) rfl rfl rfl ?_
        refine Run.one (ok_ari (z := ((p : Nat) : Int) - 1) rfl rfl rfl (congrArg some (by omega)) (wrap_i64 (by omega) (by omega))) rfl rfl rfl ?_
        refine Run.one (ok_assign rfl rfl) rfl rfl rfl ?_
        refine Run.nil ?_
        exact ⟨p, q2, ⟨by omega, hlo2, hln2, hval2⟩, by omega, ent_h (subG_cons rfl (subG_cons rfl (subG_cons rfl (subG_cons rfl (subG_cons rfl (trivial)))))) rfl⟩
    · have k38 := of_decide_eq_false h38
      have hg0 : g = 0 := by omega
      subst hg0
      rw [Nat.pow_zero, Nat.div_one, Nat.mul_one] at hval
      have i3 : IsNat q (m / n) := ⟨hlo, hval⟩
      refine T_exit ?_
      refine T_ghost (ghost_sl 0 7 rfl rfl hb19 hln rfl flat_u32 (by unfold big; omega)) ?_
      refine T_regionS ?_
      refine Run.one (ok_move rfl rfl) rfl rfl rfl ?_
      refine Run.one (ok_call rfl rfl (rtrim_spec (by unfold cap; omega))) rfl rfl rfl ?_
      refine Run.one (ok_move rfl rfl) rfl rfl rfl ?_
      refine Run.one (ok_call rfl rfl (rtrim_spec (by unfold cap; have h8 : (dig (m / 2 ^ 0 % n)).length ≤ b.length := Nat.le_trans (dig_length_le (Nat.lt_trans (Nat.mod_lt _ hn1) (lt_of_dig_length (Nat.le_refl _)))) hlb; omega))) rfl rfl rfl ?_
      refine Run.one (ok_assign rfl rfl) rfl rfl rfl ?_
      refine Run.one ((ok_assign rfl rfl).sub (show ∀ I v, (natS (dig (m / 2 ^ 0 % n))).den I v → (natS (dig (if n = 0 then 0 else m % n))).den I v from fun I v h => by rw [if_neg hn0, ← show m / 2 ^ 0 % n = m % n by rw [Nat.pow_zero, Nat.div_one]]; exact h)) rfl rfl rfl ?_
      refine Run.one (ok_assign rfl rfl) rfl rfl rfl ?_
      refine Run.nil ?_
      refine T_ret ?_
      exact ⟨_, [], .many (.cons (.tmp rfl) (.cons (.tmp rfl) (.cons (.tmp rfl) (.nil)))), List.nil_sublist _, by simp only [if_neg hn0], rfl⟩
end Go.Proofs
