/- straitref03.Div: bit by bit. -/
import Derived.Test.YtofplgefmjojjaaGreatDoorSnk
namespace Go.Proofs
open Go Go.Sv Num
variable {G : Imm}
theorem bitI_and32 {x y : Nat} (hx : x < 4294967296) (hy : y < 4294967296) : bitI .and .u32 x y = ((x &&& y : Nat) : Int) := by
 have h : x &&& y < 2 ^ 32 := Nat.and_lt_two_pow _ (by simpa using hy)
 have e1 : (BitVec.ofInt 32 (x : Int)).toNat = x := by simp; omega
 have e2 : (BitVec.ofInt 32 (y : Int)).toNat = y := by simp; omega
 show IntKind.u32.wrap ((BitVec.ofInt 32 (x : Int) &&& BitVec.ofInt 32 (y : Int)).toNat : Nat) = _
 rw [BitVec.toNat_and, e1, e2, wrap_u32 (by omega) (by simp at h; omega)]
theorem p32 {s : Nat} (hs : s < 32) : 4294967296 = 2 ^ s * (2 * 2 ^ (31 - s)) := by
 rw [← Nat.pow_succ', ← Nat.pow_add, show s + (31 - s).succ = 32 by omega]
theorem bit_limb {a : List Nat} (ha : Lim a) (p : Nat) : limb a (p / 32) / 2 ^ (p % 32) % 2 = val a / 2 ^ p % 2 := by
 have hs : p % 32 < 32 := Nat.mod_lt _ (by decide)
 rw [limb_digit ha, two_pow_split p, ← Nat.div_div_eq_div_mul]
 generalize val a / 4294967296 ^ (p / 32) = y
 rw [p32 hs, Nat.mod_mul_right_div_self, Nat.mod_mul_right_mod]
theorem low_limb {q : List Nat} (hq : Lim q) {Q p : Nat} (h : val q = Q * 2 ^ (p + 1)) : limb q (p / 32) % 2 ^ (p % 32 + 1) = 0 ∧ limb q (p / 32) + 2 ^ (p % 32) < 4294967296 := by
 have hs : p % 32 < 32 := Nat.mod_lt _ (by decide)
 have hp : 0 < 4294967296 ^ (p / 32) := Nat.pow_pos (by decide)
 have e0 : 4294967296 = 2 ^ (p % 32 + 1) * 2 ^ (31 - p % 32) := by rw [← Nat.pow_add, show p % 32 + 1 + (31 - p % 32) = 32 by omega]
 have e1 : limb q (p / 32) = 2 ^ (p % 32 + 1) * (Q % 2 ^ (31 - p % 32)) := by
  rw [limb_digit hq, h, Nat.pow_succ, two_pow_split p, show Q * (4294967296 ^ (p / 32) * 2 ^ (p % 32) * 2) = 4294967296 ^ (p / 32) * (2 ^ (p % 32 + 1) * Q) by rw [Nat.pow_succ]; ac_rfl, Nat.mul_div_cancel_left _ hp, e0, Nat.mul_mod_mul_left]
 refine ⟨by rw [e1, Nat.mul_mod_right], ?_⟩
 have h1 : Q % 2 ^ (31 - p % 32) + 1 ≤ 2 ^ (31 - p % 32) := Nat.mod_lt _ (Nat.two_pow_pos _)
 have h2 := Nat.mul_le_mul_left (2 ^ (p % 32 + 1)) h1
 rw [← e0, Nat.mul_add, ← e1] at h2
 have h3 : 2 ^ (p % 32) < 2 ^ (p % 32 + 1) := Nat.pow_lt_pow_right (by decide) (by omega)
 omega
theorem rdiv_step {X X' n bt : Nat} (hn : 0 < n) (hX : X' = 2 * X + bt) (hb : bt < 2) :
  (2 * (X % n) + bt < n → X' / n = 2 * (X / n) ∧ X' % n = 2 * (X % n) + bt) ∧ (n ≤ 2 * (X % n) + bt → X' / n = 2 * (X / n) + 1 ∧ X' % n = 2 * (X % n) + bt - n) := by
 have h1 := Nat.div_add_mod X n
 have h2 := Nat.mod_lt X hn
 have h3 : X' = n * (2 * (X / n)) + (2 * (X % n) + bt) := by rw [hX, Nat.mul_left_comm]; omega
 refine ⟨fun h => ?_, fun h => ?_⟩
 ·rw [h3, Nat.mul_add_div hn, Nat.mul_add_mod, Nat.div_eq_of_lt h, Nat.mod_eq_of_lt h]; exact ⟨rfl, rfl⟩
 ·have h4 : X' = n * (2 * (X / n) + 1) + (2 * (X % n) + bt - n) := by rw [h3, Nat.mul_add n]; omega
  have h5 : 2 * (X % n) + bt - n < n := by omega
  rw [h4, Nat.mul_add_div hn, Nat.mul_add_mod, Nat.div_eq_of_lt h5, Nat.mod_eq_of_lt h5]; exact ⟨rfl, rfl⟩
theorem half_bit (m p : Nat) : m / 2 ^ p = 2 * (m / 2 ^ (p + 1)) + m / 2 ^ p % 2 := by
 rw [Nat.pow_succ, ← Nat.div_div_eq_div_mul]; omega
theorem rdiv_spec {a b : List Nat} {m n : Nat} [hm : IsNat a m] [hn : IsNat b n] (hs : a.length + 10000 ≤ cap) (hs2 : b.length + 10000 ≤ cap) : PSpec Tryz.prog G 130 [natS a, natS b] (tupS [natS (dig (m / n)), natS (dig (if n = 0 then 0 else m % n)), intS .i64 (if n = 0 then 30 else 0)]) := by
 unfold cap at hs hs2
 have hlb : (dig n).length ≤ b.length := dig_length_le (by rw [← hn.val]; exact val_lt hn.lim)
 refine zs Tryz.func130 ?_;refine zr ?_;(iterate 3 refine zz ?_);refine zzn ?_;refine T_seq ?_;refine zr ?_;refine zz ?_;refine zo (ok_call rfl rfl (rtrim_spec (by unfold cap; omega))) ?_;(iterate 2 refine zz ?_);refine zzn ?_;refine zzc (fun h16 => ?_) fun h16 => ?_
 ·have k16 := beq_iff_eq.1 h16
  have hn0 : n = 0 := dig_len_zero.1 (by omega)
  refine zr ?_;refine zo ((ok_assign rfl rfl).sub (nil_nat (l := dig (m / n)) (dig_eq_nil.2 (by rw [hn0]; exact Nat.div_zero m)))) ?_;refine zo ((ok_assign rfl rfl).sub (nil_nat (l := dig (if n = 0 then 0 else m % n)) (by rw [if_pos hn0]; exact dig_zero))) ?_;refine zz ?_;refine zzn ?_;refine T_ret ?_
  exact ⟨_, [], .many (.cons (.tmp rfl) (.cons (.tmp rfl) (.cons (.tmp rfl) (.nil)))), List.nil_sublist _, by simp only [if_pos hn0], rfl⟩
 ·have k16 := beq_eq_false_iff_ne.1 h16
  have hn0 : n ≠ 0 := fun h => k16 (by rw [h, dig_zero]; rfl)
  have hn1 : 0 < n := Nat.pos_of_ne_zero hn0
  have hL : (dig n).length ≠ 0 := fun h => hn0 (dig_len_zero.1 h)
  obtain ⟨fr, hfr⟩ : ∃ fr, fr = a.length + 1 - (dig n).length := ⟨_, rfl⟩
  have hfa : fr ≤ a.length := by omega
  have htop : m / 2 ^ (32 * fr) = val (a.drop fr) := by rw [show 2 ^ (32 * fr) = 4294967296 ^ fr from by rw [Nat.pow_mul], ← hm.val]; exact val_shift hm.lim fr
  have htl : m / 2 ^ (32 * fr) < n := by
   rw [htop]
   refine Nat.lt_of_lt_of_le (val_lt (lim_drop hm.lim fr)) (Nat.le_trans (Nat.pow_le_pow_right (by decide) ?_) (dig_low hn0))
   rw [List.length_drop]; omega
  refine T_skip ?_;refine zr ?_;(iterate 2 refine zz ?_);refine Run.makeNat (n := a.length) (c := a.length) rfl rfl rfl rfl rfl rfl rfl (Nat.le_refl _) (by omega) (by unfold cap; omega) fun b19 hb19 => ?_;refine zz ?_;refine zx ?_;(iterate 3 refine zz ?_);refine zo (ok_call rfl rfl (rtrim_spec (by unfold cap; omega))) ?_;refine zz ?_;refine zo (ok_ari (z := ((a.length : Nat) : Int) - (((dig n).length : Nat) : Int)) rfl rfl rfl (congrArg some (by omega)) (wrap_i64 (by omega) (by omega))) ?_;refine zo (ok_ari (z := ((a.length : Nat) : Int) - (((dig n).length : Nat) : Int) + 1) rfl rfl rfl (congrArg some (by omega)) (wrap_i64 (by omega) (by omega))) ?_;refine zo ((ok_max rfl rfl rfl).sub (int_eq (n := ((fr : Nat) : Int)) (by omega))) ?_;refine zz ?_;refine zx ?_;refine Run.buildRow rfl rfl rfl rfl rfl rfl (by decide) rfl (.inl rfl) rfl rfl fun b28 hb28 => ?_;(iterate 2 refine zz ?_);refine zo ((ok_slice (lo := fr) (hi := a.length) (m := 0) rfl rfl (.inr ⟨_, _, rfl, rfl⟩) (.inl ⟨rfl, rfl, rfl⟩) (.inl rfl) (by omega) (Nat.le_refl _)).sub (show ∀ I v, _ → (natS (a.drop fr)).den I v from fun I v h => by rw [List.take_length] at h; exact h)) ?_;refine Run.append 0 rfl rfl rfl rfl rfl rfl rfl rfl hb28 rfl flat_u32 (by unfold big; simp; omega) (by unfold big; simp; omega) fun q32 hq32 => ?_;refine Run.ghost _ rfl (ghost_sl 0 32 rfl rfl hq32 (l := a.drop fr) (f := u32S) (by simp) rfl flat_u32 (by unfold big; simp; omega)) ?_
  have i1 : IsNat (a.drop fr) (m / 2 ^ (32 * fr)) := ⟨lim_drop hm.lim fr, htop.symm⟩
  refine zo (ok_call rfl rfl (rtrim_spec (by unfold cap; simp; omega))) ?_;refine zz ?_;refine zzn ?_;refine T_seq ?_;refine zr ?_;refine zz ?_;refine za ((32 * fr : Nat) : Int) ?_;refine zo (ok_ari (z := ((32 * fr : Nat) : Int) - 1) rfl rfl rfl (congrArg some (by omega)) (wrap_i64 (by omega) (by omega))) ?_;refine zz ?_;refine zzn ?_;refine T_block ?_
  refine T_loop2 (fun g q => ⟨_, [(10, intS .i64 (((g : Nat) : Int) - 1)), (9, natS (dig (m / 2 ^ g % n))), (7, eqS (rowV (some (b19, a.length)) a.length)), (1, natS b), (0, natS a)], [rowE (some (b19, a.length)) 93 1 a.length (q.flatMap u32S)], [], (0, false)⟩)
    (fun g q => g ≤ 32 * fr ∧ Lim q ∧ q.length = a.length ∧ val q = m / 2 ^ g / n * 2 ^ g) (fun g q => g)
    (32 * fr) (List.replicate a.length 0) ⟨Nat.le_refl _, lim_replicate _, List.length_replicate, by rw [val_replicate_zero, Nat.div_eq_of_lt htl, Nat.zero_mul]⟩ (ent_h (subG_cons rfl (subG_as rfl (congrArg (fun x => natS (dig x)) (Nat.mod_eq_of_lt htl).symm) (subG_cons rfl (subG_cons rfl (subG_cons rfl (trivial)))))) rfl) ?_
  rintro g q ⟨hg, hlo, hln, hval⟩
  refine T_seq ?_;refine zr ?_;(iterate 2 refine zz ?_);refine zzn ?_;refine zzc (fun h38 => ?_) fun h38 => ?_
  ·have k38 := of_decide_eq_true h38
   obtain ⟨p, rfl⟩ : ∃ p, g = p + 1 := ⟨g - 1, by omega⟩
   have hsl : p % 32 < 32 := Nat.mod_lt _ (by decide)
   have hp2 := p2_le hsl
   obtain ⟨r, hr⟩ : ∃ r, r = m / 2 ^ (p + 1) % n := ⟨_, rfl⟩
   rw [← hr]
   have hrn : r < n := by rw [hr]; exact Nat.mod_lt _ hn1
   have hrl : (dig r).length ≤ b.length := Nat.le_trans (dig_length_le (Nat.lt_trans hrn (lt_of_dig_length (Nat.le_refl _)))) hlb
   obtain ⟨bt, hbt⟩ : ∃ bt, bt = m / 2 ^ p % 2 := ⟨_, rfl⟩
   have hbt2 : bt < 2 := by rw [hbt]; exact Nat.mod_lt _ (by decide)
   have hstep := rdiv_step (X := m / 2 ^ (p + 1)) (X' := m / 2 ^ p) (n := n) (bt := bt) hn1 (by rw [hbt]; exact half_bit m p) hbt2
   rw [← hr] at hstep
   have hwl : p / 32 < a.length := by omega
   have hbl := bit_limb hm.lim p
   rw [hm.val, ← hbt] at hbl
   have hax := limb_lt hm.lim (p / 32)
   have hqx := limb_lt hlo (p / 32)
   obtain ⟨hq0, hq1⟩ := low_limb hlo hval
   have hax2 : limb a (p / 32) / 2 ^ (p % 32) ≤ limb a (p / 32) := Nat.div_le_self _ _
   refine T_skip ?_;refine T_seqQ (K := fun S1 => ∃ q2, Lim q2 ∧ q2.length = a.length ∧ val q2 = m / 2 ^ p / n * 2 ^ p ∧ Ent S1 ⟨85, [(9, natS (dig (m / 2 ^ p % n))), (10, intS .i64 (((p + 1 : Nat) : Int) - 1)), (7, eqS (rowV (some (b19, a.length)) a.length)), (1, natS b), (0, natS a)], [rowE (some (b19, a.length)) 93 1 a.length (q2.flatMap u32S)], [], (0, false)⟩) ?_ ?_
   ·refine T_block ?_;refine zr ?_;refine zz ?_;refine zo (ok_call rfl rfl (rup_spec (k := 1) (by omega) (by unfold cap; omega))) ?_;refine zz ?_;refine zzn ?_;refine T_seqQ (K := fun S1 => Ent S1 (⟨85, [(9, natS (dig (2 * r + bt))), (10, intS .i64 (((p + 1 : Nat) : Int) - 1)), (7, eqS (rowV (some (b19, a.length)) a.length)), (1, natS b), (0, natS a)], [rowE (some (b19, a.length)) 93 1 a.length (q.flatMap u32S)], [], (0, false)⟩)) ?_ ?_
    ·refine zr ?_;refine zz ?_;refine zo ((ok_move rfl rfl).sub (int_eq (show ((p + 1 : Nat) : Int) - 1 = ((p : Nat) : Int) by omega))) ?_;refine zo ((ok_quo rfl rfl rfl (by omega) (by omega) (wrap_i64 (by omega) (by omega))).sub (int_eq (n := ((p / 32 : Nat) : Int)) (by omega))) ?_;refine zo (ok_indexAddr rfl rfl rfl (by omega) (y := limb a (p / 32)) (limb_get hwl)) ?_;refine zz ?_;refine zo ((ok_move rfl rfl).sub (int_eq (show ((p + 1 : Nat) : Int) - 1 = ((p : Nat) : Int) by omega))) ?_;refine zo ((ok_rem rfl rfl rfl (by omega) (by omega)).sub (int_eq (n := ((p % 32 : Nat) : Int)) (by omega))) ?_;refine zz ?_;refine zo ((ok_shr rfl rfl rfl (by omega) (by simp [IntKind.bits]; omega)).sub (int_eq (shrN _ _))) ?_;refine zo ((ok_bits rfl (by simp) rfl rfl).sub (int_eq (n := ((bt : Nat) : Int)) ((bitI_and32 (y := 1) (by omega) (by decide)).trans (by rw [Nat.and_one_is_mod, hbl])))) ?_;refine zz ?_;refine zzn ?_;refine zzc (fun h53 => ?_) fun h53 => ?_
     ·have k53 := beq_iff_eq.1 h53
      refine T_region ?_
      have i2 : Sz (dig (r * 2 ^ 1)) (b.length + 1) := ⟨dig_length_le (by have h9 := lt_of_dig_length hrl; rw [pow_split, Nat.pow_one]; exact Nat.lt_of_lt_of_le (Nat.mul_lt_mul_of_pos_right h9 (by decide)) (Nat.mul_le_mul_left _ (by decide)))⟩
      refine zz ?_;refine zo (ok_buildNat [1] rfl rfl (by decide) rfl (by simp) rfl rfl rfl) ?_;refine zo (ok_buildSlice rfl rfl (by decide) rfl (by simp) rfl rfl) ?_;refine zo (ok_call rfl rfl (radd2_spec (by unfold cap; omega))) ?_;refine zz ?_;refine zzn ?_
      exact ent_g (subG_as rfl (congrArg (fun x => natS (dig x)) (by omega)) zk)
     ·have k53 := beq_eq_false_iff_ne.1 h53
      refine T_skip ?_
      exact ent_g (subG_as rfl (congrArg (fun x => natS (dig x)) (by omega)) zk)
    ·intro S1 hS1
     refine T_pre hS1 ?_;refine zr ?_;(iterate 2 refine zz ?_)
     refine zo (ok_call rfl rfl (rsub_spec (by have h9 : (dig (2 * r + bt)).length ≤ b.length + 1 := dig_length_le (by have h9 := lt_of_dig_length hrl; rw [pow_split]; omega); unfold cap; omega))) ?_
     (iterate 5 refine zz ?_);refine zx ?_;(iterate 2 refine zz ?_);refine zzn ?_;refine zzc (fun h65 => ?_) fun h65 => ?_
     ·have k65 := beq_iff_eq.1 h65
      have hge : n ≤ 2 * r + bt := by rcases Nat.lt_or_ge (2 * r + bt) n with h | h; rw [if_pos h] at k65; cases k65; exact h
      obtain ⟨hs1, hs2⟩ := hstep.2 hge
      have hv2 : val (q.set (p / 32) (limb q (p / 32) + 2 ^ (p % 32))) = m / 2 ^ p / n * 2 ^ p := by
       have hvs := val_set (l := q) (j := p / 32) (limb q (p / 32) + 2 ^ (p % 32)) (by omega)
       rw [hs1, Nat.add_mul, Nat.one_mul, Nat.mul_comm 2, Nat.mul_assoc, ← Nat.pow_succ', ← hval, two_pow_split p]
       rw [Nat.mul_add] at hvs; omega
      refine zr ?_;(iterate 2 refine zz ?_);refine zzn ?_;refine T_region ?_;refine zz ?_;refine zo ((ok_move rfl rfl).sub (int_eq (show ((p + 1 : Nat) : Int) - 1 = ((p : Nat) : Int) by omega))) ?_;refine zo ((ok_quo rfl rfl rfl (by omega) (by omega) (wrap_i64 (by omega) (by omega))).sub (int_eq (n := ((p / 32 : Nat) : Int)) (by omega))) ?_;refine zz ?_;refine zo ((ok_move rfl rfl).sub (int_eq (show ((p + 1 : Nat) : Int) - 1 = ((p : Nat) : Int) by omega))) ?_;refine zo ((ok_quo rfl rfl rfl (by omega) (by omega) (wrap_i64 (by omega) (by omega))).sub (int_eq (n := ((p / 32 : Nat) : Int)) (by omega))) ?_;refine zo (ok_indexRow (i := p / 32) rfl rfl rfl (by omega)) ?_;refine zo (ok_loadRow 0 rfl rfl rfl (by omega)) ?_;refine zo ((ok_move rfl rfl).sub (int_eq (show ((p + 1 : Nat) : Int) - 1 = ((p : Nat) : Int) by omega))) ?_;refine zo ((ok_rem rfl rfl rfl (by omega) (by omega)).sub (int_eq (n := ((p % 32 : Nat) : Int)) (by omega))) ?_;refine zz ?_;refine zo ((ok_shl rfl rfl rfl (by omega) (by simp [IntKind.bits]; omega)).sub (int_eq (n := ((2 ^ (p % 32) : Nat) : Int)) (by have := shlN 1 (p % 32); rw [Nat.one_mul] at this; refine (congrArg _ this).trans ?_; exact wrap_u32 (by omega) (by omega)))) ?_
      refine zo ((ok_bits rfl (by simp) rfl rfl).sub (int_eq (n := ((limb q (p / 32) + 2 ^ (p % 32) : Nat) : Int)) (by rw [bitI_or32 (by omega) (by omega), or_add hq0 (Nat.pow_lt_pow_right (by decide) (by omega))]))) ?_
      refine zo (ok_indexRow (i := p / 32) rfl rfl rfl (by omega)) ?_;refine Run.storeRow 0 rfl rfl rfl rfl rfl (by omega) rfl rfl ?_;refine zzn ?_
      exact ⟨q.set (p / 32) (limb q (p / 32) + 2 ^ (p % 32)), lim_set hlo hq1, by rw [List.length_set]; exact hln, hv2, ent_h (subG_as rfl (congrArg (fun x => natS (dig x)) hs2.symm) (subG_cons rfl (subG_cons rfl (subG_cons rfl (subG_cons rfl (trivial)))))) rfl⟩
     ·have k65 := beq_eq_false_iff_ne.1 h65
      have hge : 2 * r + bt < n := by rcases Nat.lt_or_ge (2 * r + bt) n with h | h; exact h; rw [if_neg (by omega)] at k65; exact absurd rfl k65
      obtain ⟨hs1, hs2⟩ := hstep.1 hge
      have hv2 : val q = m / 2 ^ p / n * 2 ^ p := by rw [hs1, Nat.mul_comm 2, Nat.mul_assoc, ← Nat.pow_succ', ← hval]
      have hse : 2 * r + bt = 2 * r + bt := rfl
      refine T_skip ?_
      exact ⟨q, hlo, hln, hv2, ent_h (subG_as rfl (congrArg (fun x => natS (dig x)) hs2.symm) zk) rfl⟩
   ·rintro S1 ⟨q2, hlo2, hln2, hval2, hS1⟩
    refine T_pre hS1 ?_;refine T_region ?_;refine zz ?_;refine zo (ok_ari (z := ((p : Nat) : Int) - 1) rfl rfl rfl (congrArg some (by omega)) (wrap_i64 (by omega) (by omega))) ?_;refine zz ?_;refine zzn ?_
    exact ⟨p, q2, ⟨by omega, hlo2, hln2, hval2⟩, by omega, ent_h zk rfl⟩
  ·have k38 := of_decide_eq_false h38
   have hg0 : g = 0 := by omega
   subst hg0
   rw [Nat.pow_zero, Nat.div_one, Nat.mul_one] at hval
   have i3 : IsNat q (m / n) := ⟨hlo, hval⟩
   refine T_exit ?_;refine T_ghost (ghost_sl 0 7 rfl rfl hb19 hln rfl flat_u32 (by unfold big; omega)) ?_;refine zr ?_;refine zz ?_;refine zo (ok_call rfl rfl (rtrim_spec (by unfold cap; omega))) ?_;refine zz ?_
   refine zo (ok_call rfl rfl (rtrim_spec (by unfold cap; have h8 : (dig (m / 2 ^ 0 % n)).length ≤ b.length := Nat.le_trans (dig_length_le (Nat.lt_trans (Nat.mod_lt _ hn1) (lt_of_dig_length (Nat.le_refl _)))) hlb; omega))) ?_
   refine zz ?_;refine zo ((ok_assign rfl rfl).sub (show ∀ I v, (natS (dig (m / 2 ^ 0 % n))).den I v → (natS (dig (if n = 0 then 0 else m % n))).den I v from fun I v h => by rw [if_neg hn0, ← show m / 2 ^ 0 % n = m % n by rw [Nat.pow_zero, Nat.div_one]]; exact h)) ?_;refine zz ?_;refine zzn ?_;refine T_ret ?_
   exact ⟨_, [], .many (.cons (.tmp rfl) (.cons (.tmp rfl) (.cons (.tmp rfl) (.nil)))), List.nil_sublist _, by simp only [if_neg hn0], rfl⟩
end Go.Proofs
/- gcd: of words and of numbers, by the program and by the reference. -/
namespace Go.Proofs
open Go Go.Sv Num
variable {G : Imm}
def tz (m : Nat) : Nat := if h : m = 0 then 0 else if m % 2 = 1 then 0 else tz (m / 2) + 1
termination_by m
decreasing_by omega
theorem tz_odd {m : Nat} (h : m % 2 = 1) : tz m = 0 := by
 unfold tz; rw [dif_neg (by omega), if_pos h]
theorem tz_even {m : Nat} (h0 : m ≠ 0) (h : m % 2 = 0) : tz m = tz (m / 2) + 1 := by
 rw [tz, dif_neg h0, if_neg (by omega)]
theorem tz_mul {u : Nat} (hu : u % 2 = 1) : ∀ t, tz (2 ^ t * u) = t
  | 0 => by rw [Nat.pow_zero, Nat.one_mul, tz_odd hu]
  | t + 1 => by
    have h0 : 2 ^ t * u ≠ 0 := Nat.mul_ne_zero (Nat.ne_of_gt (Nat.two_pow_pos t)) (by omega)
    have e : 2 ^ (t + 1) * u = 2 * (2 ^ t * u) := by rw [Nat.pow_succ]; ac_rfl
    rw [e, tz_even (by omega) (Nat.mul_mod_right _ _), Nat.mul_div_cancel_left _ (by decide), tz_mul hu t]
theorem tz_split {m : Nat} : m ≠ 0 → ∃ u, m = 2 ^ tz m * u ∧ u % 2 = 1 := by
  induction m using Nat.strongRecOn with
  | ind m ih =>
    intro h0
    by_cases h : m % 2 = 1
    · exact ⟨m, by rw [tz_odd h, Nat.pow_zero, Nat.one_mul], h⟩
    · obtain ⟨u, hu, hu1⟩ := ih (m / 2) (by omega) (by omega)
      refine ⟨u, ?_, hu1⟩
      rw [tz_even h0 (by omega), Nat.pow_succ, Nat.mul_right_comm, ← hu]; omega
def GInv (N M both x y : Nat) : Prop := y ≠ 0 ∧ (x = 0 → y * 2 ^ both = Nat.gcd N M) ∧ (x ≠ 0 → ∀ u v, u % 2 = 1 → v % 2 = 1 → x = 2 ^ tz x * u → y = 2 ^ tz y * v → 2 ^ both * Nat.gcd u v = Nat.gcd N M)
theorem ginv_start {N M : Nat} (hN : N ≠ 0) (hM : M ≠ 0) : GInv N M (min (tz N) (tz M)) N M :=
 ⟨hM, fun h => absurd h hN, fun _ u v hu hv h1 h2 => by
  have := gcd_two hu hv (tz N) (tz M)
  rw [← h1, ← h2] at this; exact this.symm⟩
theorem ginv_step {N M both x y u v : Nat} (h : GInv N M both x y) (hx : x ≠ 0) (hu : u % 2 = 1) (hv : v % 2 = 1) (h1 : x = 2 ^ tz x * u) (h2 : y = 2 ^ tz y * v) :
  (v ≤ u → GInv N M both (u - v) v) ∧ (u ≤ v → GInv N M both (v - u) u) := by
 have hg := h.2.2 hx u v hu hv h1 h2
 have key : ∀ a b, a % 2 = 1 → b % 2 = 1 → b ≤ a → 2 ^ both * Nat.gcd a b = Nat.gcd N M → GInv N M both (a - b) b := fun a b ha hb hle hg => by
  refine ⟨by omega, fun h0 => ?_, fun h0 u2 v2 hu2 hv2 e1 e2 => ?_⟩
  ·have : a = b := by omega
   rw [this, Nat.gcd_self] at hg; rw [Nat.mul_comm]; exact hg
  ·rw [tz_odd hb, Nat.pow_zero, Nat.one_mul] at e2
   rw [← hg, ← e2, Nat.gcd_comm u2, ← gcd_odd hb (tz (a - b)), ← e1, Nat.gcd_comm, Nat.gcd_sub_self_left hle]
 exact ⟨fun hle => key u v hu hv hle hg, fun hle => key v u hv hu hle (by rw [Nat.gcd_comm]; exact hg)⟩
theorem half_down {x : Nat} (h : x ≠ 0) : ∃ u, u % 2 = 1 ∧ x = 2 ^ tz x * u ∧ x / 2 ^ tz x = u ∧ u ≤ x := by
 obtain ⟨u, h1, h2⟩ := tz_split h
 have hp := Nat.two_pow_pos (tz x)
 have h3 : x / 2 ^ tz x = u := by rw [show x / 2 ^ tz x = 2 ^ tz x * u / 2 ^ tz x from congrArg (· / 2 ^ tz x) h1, Nat.mul_div_cancel_left _ hp]
 exact ⟨u, h2, h1, h3, by rw [← h3]; exact Nat.div_le_self _ _⟩
theorem tz_le {m k : Nat} (h0 : m ≠ 0) (h : m < 2 ^ k) : tz m < k := by
 obtain ⟨u, h1, h2⟩ := tz_split h0
 rcases Nat.lt_or_ge (tz m) k with h3 | h3
 ·exact h3
 ·exfalso
  have h4 : 2 ^ k ≤ 2 ^ tz m := Nat.pow_le_pow_right (by decide) h3
  have h5 : 2 ^ tz m ≤ m := by
   have : 2 ^ tz m * 1 ≤ 2 ^ tz m * u := Nat.mul_le_mul_left _ (by omega)
   omega
  omega
theorem twos_val {a : List Nat} (ha : Lim a) {i j : Nat} (hz : ∀ t, t < i → limb a t = 0) (hj : limb a i % 2 ^ j = 0) (ho : limb a i / 2 ^ j % 2 = 1) (hj2 : j < 32) : tz (val a) = 32 * i + j := by
 have h1 : low a i = 0 := by
  have : low a i = low [] i := low_congr fun t ht => by rw [hz t ht, limb_nil]
  rw [this]; exact low_all (Nat.zero_le _)
 have h2 : limb a i = 2 ^ j * (limb a i / 2 ^ j) := by have := Nat.div_add_mod (limb a i) (2 ^ j); omega
 have h3 : val a = 2 ^ (32 * i + j) * (limb a i / 2 ^ j + 2 * (2 ^ (31 - j) * val (a.drop (i + 1)))) := by
  rw [low_val a i, h1, Nat.zero_add, val_cons_limb, Nat.pow_add, Nat.pow_mul, Nat.mul_assoc, Nat.mul_add (2 ^ j), ← h2, ← Nat.mul_assoc 2, ← Nat.mul_assoc (2 ^ j), ← p32 hj2]
 rw [h3]; exact tz_mul (by omega) _
theorem word_spec [Tab G] {a b : Nat} (ha : a < 18446744073709551616) (hb : b < 18446744073709551616) : PSpec Tryz.prog G 236 [intS .u64 (a : Nat), intS .u64 (b : Nat)] (intS .u64 (Nat.gcd a b : Nat)) := by
 refine zs Tryz.func236 ?_;refine zr ?_;refine zz ?_;refine zzn ?_;refine T_scope ?_;refine T_seq ?_;refine zr ?_;refine zz ?_
 refine Run.oneB (ok_cmp rfl rfl rfl rfl) rfl rfl rfl (fun h1_1 => ?_) (fun h1_1 => ?_)
 ·have k1_1 := beq_iff_eq.1 h1_1
  refine zz ?_;(iterate 2 refine zq ?_);refine zz ?_;refine zzn ?_;refine T_condT rfl rfl ?_;refine zr ?_;(iterate 2 refine zz ?_);refine zo ((ok_bits rfl (by simp) rfl rfl).sub (int_eq (n := ((Nat.gcd a b : Nat) : Int)) (by rw [bitI_or ha hb, show a = 0 by omega, Nat.zero_or, Nat.gcd_zero_left]))) ?_;refine zz ?_;refine zzn ?_;refine T_ret ?_
  exact ⟨_, [], .one (.tmp rfl), List.nil_sublist _, rfl, rfl⟩
 ·have k1_1 := beq_eq_false_iff_ne.1 h1_1
  (iterate 4 refine zz ?_);refine zzn ?_;refine zzc (fun h11 => ?_) fun h11 => ?_
  ·have k11 := beq_iff_eq.1 h11
   refine zr ?_;(iterate 2 refine zz ?_);refine zo ((ok_bits rfl (by simp) rfl rfl).sub (int_eq (n := ((Nat.gcd a b : Nat) : Int)) (by rw [bitI_or ha hb, show b = 0 by omega, Nat.or_zero, Nat.gcd_zero_right]))) ?_;refine zz ?_;refine zzn ?_;refine T_ret ?_
   exact ⟨_, [], .one (.tmp rfl), List.nil_sublist _, rfl, rfl⟩
  ·have k11 := beq_eq_false_iff_ne.1 h11
   have ha0 : a ≠ 0 := by omega
   have hb0 : b ≠ 0 := by omega
   obtain ⟨hw1, hw2⟩ := word_gcd ha0 hb0 ha hb
   obtain ⟨_, _, hca⟩ := ctz_split ha0 ha
   obtain ⟨_, _, hco⟩ := ctz_split (x := a ||| b) (fun h => ha0 (Nat.or_eq_zero_iff.1 h).1) (Nat.or_lt_two_pow (n := 64) ha hb)
   obtain ⟨k, hk⟩ : ∃ k, k = Lib.ctz 64 (a ||| b) := ⟨_, rfl⟩
   rw [← hk] at hw1 hco
   have hgl : Nat.gcd a b < 18446744073709551616 := Nat.lt_of_le_of_lt (Nat.gcd_le_left b (Nat.pos_of_ne_zero ha0)) ha
   obtain ⟨x0, hx0⟩ : ∃ x, x = a / 2 ^ Lib.ctz 64 a := ⟨_, rfl⟩
   rw [← hx0] at hw1 hw2
   have hx1 : x0 ≤ a := by rw [hx0]; exact Nat.div_le_self _ _
   refine T_skip ?_;refine zr ?_;(iterate 2 refine zz ?_);refine zo ((ok_bits rfl (by simp) rfl rfl).sub (int_eq (bitI_or ha hb))) ?_;refine zo ((ok_call rfl rfl (tz64_spec (Nat.or_lt_two_pow (n := 64) ha hb))).sub (int_eq (n := ((k : Nat) : Int)) (by rw [hk]))) ?_;refine zz ?_;refine zx ?_;(iterate 2 refine zz ?_);refine zf (tz64_spec ha) ?_;refine zo ((ok_shr rfl rfl rfl (by omega) (by simp [IntKind.bits]; omega)).sub (int_eq (n := ((x0 : Nat) : Int)) ((shrN _ _).trans (by rw [hx0])))) ?_;refine zz ?_;refine zzn ?_;refine T_seq ?_;refine T_label ?_;refine T_seq ?_;refine T_block ?_
   refine T_loop2 (fun x y => ⟨_, [(5, intS .i64 (k : Nat)), (1, intS .u64 (y : Nat)), (0, intS .u64 (x : Nat))], [], [], (0, false)⟩)
     (fun x y => x % 2 = 1 ∧ x < 18446744073709551616 ∧ y < 18446744073709551616 ∧ Nat.gcd a b = 2 ^ k * Nat.gcd x y) (fun x y => x + y)
     x0 b ⟨hw2, by omega, hb, hw1⟩ (ent_g zk) ?_
   rintro x y ⟨hxo, hxl, hyl, hval⟩
   refine T_seq ?_;refine zr ?_;(iterate 2 refine zz ?_);refine zzn ?_;refine zzc (fun h24 => ?_) fun h24 => ?_
   ·have k24 := bne_iff_ne.1 h24
    have hy0 : y ≠ 0 := by omega
    obtain ⟨hs1, hs2⟩ := gcd_shift hxo hy0 hyl
    obtain ⟨_, _, hcy⟩ := ctz_split hy0 hyl
    obtain ⟨z, hz⟩ : ∃ z, z = y / 2 ^ Lib.ctz 64 y := ⟨_, rfl⟩
    rw [← hz] at hs1 hs2
    have hz1 : z ≤ y := by rw [hz]; exact Nat.div_le_self _ _
    refine T_skip ?_;refine T_block ?_;refine zr ?_;(iterate 2 refine zz ?_);refine zf (tz64_spec hyl) ?_;refine zo ((ok_shr rfl rfl rfl (by omega) (by simp [IntKind.bits]; omega)).sub (int_eq (n := ((z : Nat) : Int)) ((shrN _ _).trans (by rw [hz])))) ?_;refine zz ?_;refine zzn ?_;refine T_seq ?_;refine zr ?_;(iterate 3 refine zz ?_);refine zzn ?_;refine zzc (fun h31 => ?_) fun h31 => ?_
    ·have k31 := of_decide_eq_true h31
     refine zr ?_;(iterate 2 refine zz ?_);refine za ((z - x : Nat) : Int) ?_;refine zz ?_;refine zzn ?_;refine T_exit ?_
     exact ⟨x, z - x, ⟨hxo, hxl, by omega, by rw [hval, ← hs1, Nat.gcd_sub_self_right (by omega)]⟩, by omega, ent_g (subG_cons rfl (subG_cons rfl (subG_cons rfl (trivial))))⟩
    ·have k31 := of_decide_eq_false h31
     refine T_skip ?_;refine T_region ?_;(iterate 3 refine zz ?_);refine za ((x - z : Nat) : Int) ?_;(iterate 2 refine zz ?_);refine zzn ?_
     exact ⟨z, x - z, ⟨hs2, by omega, by omega, by rw [hval, ← hs1, Nat.gcd_sub_self_right (by omega), Nat.gcd_comm]⟩, by omega, ent_g (subG_cons rfl (subG_cons rfl (subG_cons rfl (trivial))))⟩
   ·have k24 := bne_eq_false_iff_eq.1 h24
    have hy0 : y = 0 := by omega
    rw [hy0, Nat.gcd_zero_right, Nat.mul_comm] at hval
    refine T_exit ?_;refine zr ?_;(iterate 2 refine zz ?_);refine zo ((ok_shl rfl rfl rfl (by omega) (by simp [IntKind.bits]; omega)).sub (int_eq (n := ((Nat.gcd a b : Nat) : Int)) (by rw [shlN, ← hval]; exact wrap_u64 (by omega) (by omega)))) ?_;refine zz ?_;refine zzn ?_;refine T_ret ?_
    exact ⟨_, [], .one (.tmp rfl), List.nil_sublist _, rfl, rfl⟩
theorem gcd_spec [Tab G] {a b : List Nat} {m n : Nat} [hm : IsNat a m] [hn : IsNat b n] (hs : a.length + b.length + 10000 ≤ cap) : PSpec Tryz.prog G 219 [natS a, natS b] (natS (dig (Nat.gcd m n))) := by
 unfold cap at hs
 have hla : (dig m).length ≤ a.length := dig_length_le (by rw [← hm.val]; exact val_lt hm.lim)
 have hlb : (dig n).length ≤ b.length := dig_length_le (by rw [← hn.val]; exact val_lt hn.lim)
 refine zs Tryz.func219 ?_;refine zr ?_;refine zz ?_;refine zx ?_;refine zz ?_;refine zo (ok_call rfl rfl (trim_spec (by unfold cap; omega))) ?_;refine zz ?_;refine zo (ok_call rfl rfl (trim_spec (by unfold cap; omega))) ?_;(iterate 2 refine zz ?_);refine zzn ?_;refine T_seq ?_;refine T_block ?_
 refine T_loop2 (fun x y => ⟨_, [(1, natS (dig y)), (0, natS (dig x))], [], [], (0, false)⟩)
   (fun x y => (dig x).length ≤ a.length + b.length ∧ (dig y).length ≤ a.length + b.length ∧ Nat.gcd x y = Nat.gcd m n) (fun x y => y)
   m n ⟨by omega, by omega, rfl⟩ (ent_g zk) ?_
 rintro x y ⟨hxl, hyl, hval⟩
 refine T_seq ?_;refine zr ?_;(iterate 3 refine zz ?_);refine zzn ?_;refine zzc (fun h18 => ?_) fun h18 => ?_
 ·have k18 := of_decide_eq_true h18
  have hy0 : y ≠ 0 := fun h => by rw [h, dig_zero] at k18; simp at k18
  have hyp := Nat.pos_of_ne_zero hy0
  have hml := Nat.mod_lt x hyp
  refine T_skip ?_;refine T_block ?_;refine zr ?_;refine zz ?_;refine zf small_spec ?_;(iterate 5 refine zz ?_);refine zx ?_;refine zz ?_;refine zf small_spec ?_;(iterate 5 refine zz ?_);refine zzn ?_;refine T_seqQ (K := fun S1 => Ent S1 (⟨47, [(1, natS (dig y)), (0, natS (dig x))], [], [], (0, false)⟩)) ?_ ?_
  ·refine zr ?_
   refine Run.oneB (ok_move rfl rfl) rfl rfl rfl (fun h5_0 => ?_) (fun h5_0 => ?_)
   ·refine zz ?_;(iterate 2 refine zz ?_);refine zzn ?_;refine zzc (fun h32 => ?_) fun h32 => ?_
    ·refine zr ?_;refine zo ((ok_move rfl rfl).sub (int_eq (n := ((x : Nat) : Int)) (if_pos (of_decide_eq_true h5_0)))) ?_;refine zo ((ok_move rfl rfl).sub (int_eq (n := ((y : Nat) : Int)) (if_pos (of_decide_eq_true h32)))) ?_;refine zf (word_spec (of_decide_eq_true h5_0) (of_decide_eq_true h32)) ?_;refine zf (of_spec (Nat.lt_of_le_of_lt (Nat.gcd_le_right x hyp) (of_decide_eq_true h32))) ?_;refine zz ?_;refine zzn ?_;refine T_ret ?_
     exact ⟨_, [], .one (.tmp rfl), List.nil_sublist _, by rw [hval], rfl⟩
    ·refine T_skip ?_
     exact ent_g zk
   ·refine zz ?_;refine zq ?_;refine zz ?_;refine zzn ?_;refine T_condF rfl rfl ?_;refine T_skip ?_
    exact ent_g zk
  ·intro S1 hS1
   refine T_pre hS1 ?_;refine zr ?_;(iterate 2 refine zz ?_);refine zo (ok_call rfl rfl (div_spec (by unfold cap; omega) (by unfold cap; omega))) ?_;(iterate 2 refine zz ?_);refine zo ((ok_extract rfl rfl rfl).sub (show ∀ I v, (natS (dig (if y = 0 then 0 else x % y))).den I v → (natS (dig (x % y))).den I v from fun I v h => by rw [if_neg hy0] at h; exact h)) ?_;(iterate 4 refine zz ?_);refine zzn ?_;refine T_region ?_;(iterate 4 refine zz ?_);refine zzn ?_
   exact ⟨y, x % y, ⟨hyl, Nat.le_trans (dig_length_le (Nat.lt_trans hml (lt_of_dig_length (Nat.le_refl _)))) hyl, by rw [Nat.gcd_comm, ← Nat.gcd_rec, Nat.gcd_comm, hval]⟩, hml, ent_g (subG_cons rfl (subG_cons rfl (trivial)))⟩
 ·have k18 := of_decide_eq_false h18
  have hy0 : y = 0 := dig_len_zero.1 (by omega)
  rw [hy0, Nat.gcd_zero_right] at hval
  refine T_exit ?_;refine zr ?_;(iterate 2 refine zz ?_);refine zzn ?_;refine T_ret ?_
  exact ⟨_, [], .one (.tmp rfl), List.nil_sublist _, by rw [hval], rfl⟩
theorem by1_spec {a g : List Nat} {m n : Nat} [hm : IsNat a m] [hn : IsNat g n] (hs : a.length + 10000 ≤ cap) (hs2 : g.length + 10000 ≤ cap) : PSpec Tryz.prog G 238 [natS a, ptrS [natS g]] (natS (dig (m / n))) := by
 refine zs Tryz.func238 ?_;refine zr ?_;refine zz ?_;refine zx ?_;(iterate 2 refine zz ?_);refine zf (div_spec hs hs2) ?_;(iterate 7 refine zz ?_);refine zx ?_;(iterate 2 refine zz ?_);refine zzn ?_;refine T_ret ?_
 exact ⟨_, [], .one (.tmp rfl), List.nil_sublist _, rfl, rfl⟩
theorem by_spec {g : List Nat} : PSpec Tryz.prog G 220 [natS g] (fnS 238 [ptrS [natS g]]) := by
 refine zs Tryz.func220 ?_;refine zr ?_;(iterate 2 refine zz ?_);refine zx ?_;(iterate 2 refine zz ?_);refine zzn ?_;refine T_ret ?_
 exact ⟨_, [], .one (.tmp rfl), List.nil_sublist _, rfl, rfl⟩
theorem reduce_spec [Tab G] {a b : List Nat} {m n : Nat} [hm : IsNat a m] [hn : IsNat b n] (hs : a.length + b.length + 10000 ≤ cap) : PSpec Tryz.prog G 190 [natS a, natS b] (tupS [natS (dig (m / Nat.gcd m n)), natS (dig (n / Nat.gcd m n))]) := by
 have hgl : (dig (Nat.gcd m n)).length ≤ a.length + b.length := by
  rcases Nat.eq_zero_or_pos m with h | h
  ·rw [h, Nat.gcd_zero_left]; exact Nat.le_trans (dig_length_le (by rw [← hn.val]; exact val_lt hn.lim)) (Nat.le_add_left _ _)
  ·exact Nat.le_trans (dig_length_le (Nat.lt_of_le_of_lt (Nat.gcd_le_left n h) (by rw [← hm.val]; exact val_lt hm.lim))) (Nat.le_add_right _ _)
 have hs0 := hs
 unfold cap at hs
 refine zs Tryz.func190 ?_;refine zr ?_;(iterate 2 refine zz ?_);refine zx ?_;(iterate 2 refine zz ?_);refine zf (gcd_spec hs0) ?_;refine zz ?_;refine zzn ?_;refine T_seq ?_;refine zr ?_;(iterate 3 refine zz ?_);refine zzn ?_;refine zzc (fun h13 => ?_) fun h13 => ?_
 ·have k13 := beq_iff_eq.1 h13
  have hg0 : Nat.gcd m n = 0 := dig_len_zero.1 (by omega)
  refine zr ?_;refine zo ((ok_assign rfl rfl).sub (nil_nat (l := dig (m / Nat.gcd m n)) (by rw [hg0, Nat.div_zero, dig_zero]))) ?_;refine zo ((ok_assign rfl rfl).sub (nil_nat (l := dig (n / Nat.gcd m n)) (by rw [hg0, Nat.div_zero, dig_zero]))) ?_;refine zzn ?_;refine T_ret ?_
  exact ⟨_, [], .many (.cons (.tmp rfl) (.cons (.tmp rfl) (.nil))), List.nil_sublist _, rfl, rfl⟩
 ·have k13 := beq_eq_false_iff_ne.1 h13
  refine T_skip ?_;refine zr ?_;refine zz ?_;refine zf by_spec ?_;refine zz ?_;refine zx ?_;(iterate 2 refine zz ?_);refine zo (ok_callV rfl rfl rfl (by1_spec (by unfold cap; omega) (by unfold cap; omega))) ?_;(iterate 2 refine zz ?_);refine zo (ok_callV rfl rfl rfl (by1_spec (by unfold cap; omega) (by unfold cap; omega))) ?_;(iterate 2 refine zz ?_);refine zzn ?_;refine T_ret ?_
  exact ⟨_, [], .many (.cons (.tmp rfl) (.cons (.tmp rfl) (.nil))), List.nil_sublist _, rfl, rfl⟩
theorem rplain_spec {a b : Nat} (ha : a < 18446744073709551616) (hb : b < 18446744073709551616) : PSpec Tryz.prog G 150 [intS .u64 (a : Nat), intS .u64 (b : Nat)] (intS .u64 (Nat.gcd a b : Nat)) := by
 refine zs Tryz.func150 ?_;refine zr ?_;refine zz ?_;refine zzn ?_;refine T_seq ?_;refine T_block ?_
 refine T_loop2 (fun x y => ⟨_, [(1, intS .u64 (y : Nat)), (0, intS .u64 (x : Nat))], [], [], (0, false)⟩)
   (fun x y => x < 18446744073709551616 ∧ y < 18446744073709551616 ∧ Nat.gcd x y = Nat.gcd a b) (fun x y => y)
   a b ⟨ha, hb, rfl⟩ (ent_g zk) ?_
 rintro x y ⟨hxl, hyl, hval⟩
 refine T_seq ?_;refine zr ?_;(iterate 2 refine zz ?_);refine zzn ?_;refine zzc (fun h6 => ?_) fun h6 => ?_
 ·have k6 := of_decide_eq_true h6
  have hyp : 0 < y := by omega
  have hml := Nat.mod_lt x hyp
  refine T_skip ?_;refine T_block ?_;refine T_draw 6 (by kernel_rfl) ?_;(iterate 3 refine zz ?_);refine zo ((ok_rem rfl rfl rfl (by omega) (by omega)).sub (int_eq (n := ((x % y : Nat) : Int)) (Int.natCast_emod _ _).symm)) ?_;(iterate 2 refine zz ?_);(iterate 2 refine zzn ?_)
  exact ⟨y, x % y, ⟨hyl, by omega, by rw [Nat.gcd_comm, ← Nat.gcd_rec, Nat.gcd_comm, hval]⟩, hml, ent_g (subG_cons rfl (subG_cons rfl (trivial)))⟩
 ·have k6 := of_decide_eq_false h6
  have hy0 : y = 0 := by omega
  rw [hy0, Nat.gcd_zero_right] at hval
  refine T_exit ?_;refine zr ?_;(iterate 2 refine zz ?_);refine zzn ?_;refine T_ret ?_
  exact ⟨_, [], .one (.tmp rfl), List.nil_sublist _, by rw [hval], rfl⟩
theorem twos_spec {a : List Nat} {m : Nat} [hm : IsNat a m] (h0 : m ≠ 0) (hs : a.length ≤ cap) : PSpec Tryz.prog G 193 [natS a] (intS .i64 (tz m : Nat)) := by
 unfold cap at hs
 refine zs Tryz.func193 ?_;refine zr ?_;refine zz ?_;refine zx ?_;refine zz ?_;refine zzn ?_;refine T_seqQ (K := fun S1 => ∃ i, i < a.length ∧ limb a i ≠ 0 ∧ (∀ t, t < i → limb a t = 0) ∧ Ent S1 ⟨34, [(3, intS .i64 (32 * i : Nat)), (0, natS a)], [], [], (0, false)⟩) ?_ ?_
 ·refine zr ?_;refine zz ?_;refine zzn ?_;refine T_block ?_
  refine T_loop (γ := Nat) (fun i => ⟨_, [(4, intS .i64 (i : Nat)), (3, intS .i64 (32 * i : Nat)), (0, natS a)], [], [], (0, false)⟩) (fun i => i ≤ a.length ∧ ∀ t, t < i → limb a t = 0) (fun i => a.length - i) 0 ⟨Nat.zero_le _, fun t h => by omega⟩ (ent_g zk) ?_
  rintro i ⟨hi, hz⟩
  have hfin : (i = a.length ∨ limb a i ≠ 0) → i < a.length ∧ limb a i ≠ 0 := fun h => by
   rcases h with h | h
   ·exfalso; apply h0; rw [← hm.val]
    have : val a = val [] := val_congr fun t => by rcases Nat.lt_or_ge t i with h1 | h1; rw [hz t h1, limb_nil]; rw [limb_out (by omega), limb_nil]
    exact this
   ·refine ⟨?_, h⟩; rcases Nat.lt_or_ge i a.length with h1 | h1; exact h1; exact absurd (limb_out h1) h
  refine T_seq ?_;refine zr ?_;(iterate 3 refine zz ?_)
  refine Run.oneB (ok_cmp rfl rfl rfl rfl) rfl rfl rfl (fun h3_3 => ?_) (fun h3_3 => ?_)
  ·have k3_3 := of_decide_eq_true h3_3
   (iterate 3 refine zz ?_);refine zo (ok_indexAddr rfl rfl rfl (by omega) (y := limb a i) (limb_get (by omega))) ?_;(iterate 3 refine zz ?_);refine zzn ?_;refine zzc (fun h16 => ?_) fun h16 => ?_
   ·have k16 := beq_iff_eq.1 h16
    refine T_skip ?_;refine T_seq ?_;refine T_block ?_;refine T_region ?_;refine zz ?_;refine za ((32 * (i + 1) : Nat) : Int) ?_;refine zz ?_;refine zzn ?_;refine T_region ?_;refine zz ?_;refine za ((i + 1 : Nat) : Int) ?_;refine zz ?_;refine zzn ?_
    exact ⟨i + 1, ⟨by omega, fun t ht => by rcases Nat.lt_or_ge t i with h | h; exact hz t h; rw [show t = i by omega]; omega⟩, by omega, ent_g (subG_cons rfl (subG_cons rfl (subG_cons rfl (trivial))))⟩
   ·have k16 := beq_eq_false_iff_ne.1 h16
    refine T_exit ?_
    exact ⟨i, (hfin (.inr (by omega))).1, (hfin (.inr (by omega))).2, hz, ent_g zk⟩
  ·have k3_3 := of_decide_eq_false h3_3
   refine zz ?_;(iterate 5 refine zq ?_);refine zz ?_;refine zzn ?_;refine T_condF rfl rfl ?_;refine T_exit ?_
   exact ⟨i, (hfin (.inl (by omega))).1, (hfin (.inl (by omega))).2, hz, ent_g zk⟩
 ·rintro S1 ⟨i, hi1, hi2, hz, hS1⟩
  refine T_pre hS1 ?_
  have hax := limb_lt hm.lim i
  refine T_seq ?_;refine zr ?_;(iterate 2 refine zz ?_);refine zo ((ok_quo rfl rfl rfl (by omega) (by omega) (wrap_i64 (by omega) (by omega))).sub (int_eq (n := ((i : Nat) : Int)) (by omega))) ?_;refine zo (ok_indexAddr rfl rfl rfl (by omega) (y := limb a i) (limb_get hi1)) ?_;(iterate 2 refine zz ?_);refine zzn ?_;refine T_block ?_
  refine T_loop2 (fun j w => ⟨_, [(5, intS .u32 (w : Nat)), (3, intS .i64 (32 * i + j : Nat))], [], [], (0, false)⟩) (fun j w => w = limb a i / 2 ^ j ∧ j < 32 ∧ limb a i % 2 ^ j = 0 ∧ w ≠ 0 ∧ w < 4294967296) (fun j w => 32 - j) 0 (limb a i) ⟨by rw [Nat.pow_zero, Nat.div_one], by decide, by rw [Nat.pow_zero]; exact Nat.mod_one _, hi2, hax⟩ (ent_g (subG_cons rfl (subG_cons rfl (trivial)))) ?_
  rintro j w ⟨hw, hj, hj1, hj2, hj3⟩
  refine T_seq ?_;refine zr ?_;refine zz ?_;refine zo ((ok_rem rfl rfl rfl (by omega) (by omega)).sub (int_eq (n := ((w % 2 : Nat) : Int)) (by omega))) ?_;refine zz ?_;refine zzn ?_;refine zzc (fun h28 => ?_) fun h28 => ?_
  ·have k28 := beq_iff_eq.1 h28
   have hd2 : w / 2 = limb a i / 2 ^ (j + 1) := by rw [Nat.pow_succ, ← Nat.div_div_eq_div_mul, hw]
   refine T_skip ?_;refine T_seq ?_;refine T_block ?_;refine T_region ?_;refine zz ?_;refine za ((32 * i + (j + 1) : Nat) : Int) ?_;refine zz ?_;refine zzn ?_;refine T_region ?_;refine zz ?_;refine zo ((ok_quo rfl rfl rfl (by omega) (by omega) (wrap_u32 (by omega) (by omega))).sub (int_eq (n := ((w / 2 : Nat) : Int)) (by omega))) ?_;refine zz ?_;refine zzn ?_
   refine ⟨j + 1, w / 2, ⟨hd2, ?_, ?_, by omega, by omega⟩, by omega, ent_g zk⟩
   ·rcases Nat.lt_or_ge (j + 1) 32 with h | h
    ·exact h
    ·exfalso
     have : j + 1 = 32 := by omega
     rw [this, Nat.div_eq_of_lt (show limb a i < 2 ^ 32 from hax)] at hd2; omega
   ·have h1 := Nat.div_add_mod (limb a i) (2 ^ j)
    rw [hj1, Nat.add_zero, ← hw] at h1
    have h2 : limb a i = 2 ^ (j + 1) * (w / 2) := by rw [Nat.pow_succ, Nat.mul_assoc, Nat.mul_div_cancel' (Nat.dvd_of_mod_eq_zero (by omega))]; exact h1.symm
    rw [h2, Nat.mul_mod_right]
  ·have k28 := beq_eq_false_iff_ne.1 h28
   refine T_exit ?_;refine zr ?_;(iterate 2 refine zz ?_);refine zzn ?_;refine T_ret ?_
   exact ⟨_, [], .one (.tmp rfl), List.nil_sublist _, congrArg (fun x : Nat => intS .i64 x) (by rw [← hm.val, twos_val hm.lim hz hj1 (by rw [← hw]; omega) hj]), rfl⟩
theorem rgcd_spec {a b : List Nat} {m n : Nat} [hm : IsNat a m] [hn : IsNat b n] (hs : 32 * max a.length b.length + 1000 ≤ 65536) : PSpec Tryz.prog G 151 [natS a, natS b] (natS (dig (Nat.gcd m n))) := by
 have hla : (dig m).length ≤ a.length := dig_length_le (by rw [← hm.val]; exact val_lt hm.lim)
 have hlb : (dig n).length ≤ b.length := dig_length_le (by rw [← hn.val]; exact val_lt hn.lim)
 have htz : ∀ x, x ≠ 0 → (dig x).length ≤ max a.length b.length → tz x ≤ 65536 := fun x h0 h => by
  have h1 := lt_of_dig_length h
  rw [show (4294967296 : Nat) = 2 ^ 32 from rfl, ← Nat.pow_mul] at h1
  have := tz_le h0 h1; omega
 have hdl : ∀ x y, x ≤ y → (dig y).length ≤ max a.length b.length → (dig x).length ≤ max a.length b.length := fun x y h h1 => dig_length_le (Nat.lt_of_le_of_lt h (lt_of_dig_length h1))
 refine zs Tryz.func151 ?_;refine zr ?_;refine zz ?_;refine zx ?_;refine zz ?_;refine zo (ok_call rfl rfl (rtrim_spec (by unfold cap; omega))) ?_;refine zz ?_;refine zo (ok_call rfl rfl (rtrim_spec (by unfold cap; omega))) ?_;(iterate 2 refine zz ?_);refine zzn ?_;refine T_seq ?_;refine zr ?_;(iterate 2 refine zz ?_)
 refine Run.oneB (ok_cmp rfl rfl rfl rfl) rfl rfl rfl (fun h2_2 => ?_) (fun h2_2 => ?_)
 ·have k2_2 := beq_iff_eq.1 h2_2
  refine zz ?_;(iterate 3 refine zq ?_);refine zz ?_;refine zzn ?_;refine T_condT rfl rfl ?_;refine zr ?_
  have i1 : Sz (dig m) a.length := ⟨hla⟩
  have i2 : Sz (dig n) b.length := ⟨hlb⟩
  (iterate 2 refine zz ?_);refine zo (ok_buildSlice rfl rfl (by decide) rfl (by simp) rfl rfl) ?_;refine zo (ok_call rfl rfl (radd2_spec (by unfold cap; omega))) ?_;refine zz ?_;refine zzn ?_;refine T_ret ?_
  exact ⟨_, [], .one (.tmp rfl), List.nil_sublist _, by rw [show m = 0 from dig_len_zero.1 (by omega), Nat.gcd_zero_left, Nat.zero_add], rfl⟩
 ·have k2_2 := beq_eq_false_iff_ne.1 h2_2
  (iterate 5 refine zz ?_);refine zzn ?_;refine zzc (fun h17 => ?_) fun h17 => ?_
  ·have k17 := beq_iff_eq.1 h17
   refine zr ?_
   have i1 : Sz (dig m) a.length := ⟨hla⟩
   have i2 : Sz (dig n) b.length := ⟨hlb⟩
   (iterate 2 refine zz ?_);refine zo (ok_buildSlice rfl rfl (by decide) rfl (by simp) rfl rfl) ?_;refine zo (ok_call rfl rfl (radd2_spec (by unfold cap; omega))) ?_;refine zz ?_;refine zzn ?_;refine T_ret ?_
   exact ⟨_, [], .one (.tmp rfl), List.nil_sublist _, by rw [show n = 0 from dig_len_zero.1 (by omega), Nat.gcd_zero_right, Nat.add_zero], rfl⟩
  ·have k17 := beq_eq_false_iff_ne.1 h17
   have hm0 : m ≠ 0 := fun h => by rw [h, dig_zero] at k2_2; exact k2_2 rfl
   have hn0 : n ≠ 0 := fun h => by rw [h, dig_zero] at k17; exact k17 rfl
   refine T_skip ?_;refine zr ?_;refine zz ?_;refine zo (ok_call rfl rfl (twos_spec hm0 (by unfold cap; omega))) ?_;refine zz ?_;refine zo (ok_call rfl rfl (twos_spec hn0 (by unfold cap; omega))) ?_;refine zo ((ok_min rfl rfl rfl).sub (int_eq (n := ((min (tz m) (tz n) : Nat) : Int)) (by omega))) ?_;refine zz ?_;refine zzn ?_;refine T_seq ?_;refine T_block ?_
   refine T_loop2 (fun x y => ⟨_, [(5, intS .i64 (min (tz m) (tz n) : Nat)), (1, natS (dig y)), (0, natS (dig x))], [], [], (0, false)⟩)
     (fun x y => (dig x).length ≤ max a.length b.length ∧ (dig y).length ≤ max a.length b.length ∧ GInv m n (min (tz m) (tz n)) x y) (fun x y => x + y)
     m n ⟨by omega, by omega, ginv_start hm0 hn0⟩ (ent_g zk) ?_
   rintro x y ⟨hxl, hyl, hval⟩
   refine T_seq ?_;refine zr ?_;(iterate 3 refine zz ?_);refine zzn ?_;refine zzc (fun h29 => ?_) fun h29 => ?_
   ·have k29 := of_decide_eq_true h29
    have hx0 : x ≠ 0 := fun h => by rw [h, dig_zero] at k29; simp at k29
    obtain ⟨u, hu1, hu2, hu3, hu4⟩ := half_down hx0
    obtain ⟨v, hv1, hv2, hv3, hv4⟩ := half_down hval.1
    obtain ⟨hst1, hst2⟩ := ginv_step hval hx0 hu1 hv1 hu2 hv2
    refine T_skip ?_;refine T_block ?_;refine zr ?_;(iterate 2 refine zz ?_);refine zo (ok_call rfl rfl (twos_spec hx0 (by unfold cap; omega))) ?_;refine zo ((ok_call rfl rfl (rdown_spec (htz x hx0 hxl) (by unfold cap; omega))).sub (show ∀ I w, (natS (dig (x / 2 ^ tz x))).den I w → (natS (dig u)).den I w from fun I w h => by rw [hu3] at h; exact h)) ?_;refine zz ?_;refine zx ?_;(iterate 2 refine zz ?_);refine zo (ok_call rfl rfl (twos_spec hval.1 (by unfold cap; omega))) ?_;refine zo ((ok_call rfl rfl (rdown_spec (htz y hval.1 hyl) (by unfold cap; omega))).sub (show ∀ I w, (natS (dig (y / 2 ^ tz y))).den I w → (natS (dig v)).den I w from fun I w h => by rw [hv3] at h; exact h)) ?_;refine zz ?_;refine zzn ?_;refine T_seq ?_;refine zr ?_;(iterate 2 refine zz ?_);refine zf rcmp_spec ?_;refine zz ?_;refine zzn ?_;refine zzc (fun h41 => ?_) fun h41 => ?_
    ·have k41 := of_decide_eq_true h41
     have huv : u < v := by rcases Nat.lt_or_ge u v with h | h; exact h; unfold tri at k41; rw [if_neg (by omega)] at k41; split at k41 <;> omega
     refine T_region ?_;(iterate 4 refine zz ?_);refine zzn ?_;refine T_region ?_;(iterate 2 refine zz ?_);refine zo (ok_call rfl rfl (rsub_spec (by have := hdl v y hv4 hyl; unfold cap; omega))) ?_;(iterate 4 refine zz ?_);refine zzn ?_
     exact ⟨v - u, u, ⟨hdl _ y (by omega) hyl, hdl _ x hu4 hxl, hst2 (by omega)⟩, by omega, ent_g zk⟩
    ·have k41 := of_decide_eq_false h41
     have huv : v ≤ u := by rcases Nat.lt_or_ge u v with h | h; unfold tri at k41; rw [if_pos h] at k41; omega; exact h
     refine T_skip ?_;refine T_region ?_;(iterate 2 refine zz ?_);refine zo (ok_call rfl rfl (rsub_spec (by have := hdl u x hu4 hxl; unfold cap; omega))) ?_;(iterate 4 refine zz ?_);refine zzn ?_
     exact ⟨u - v, v, ⟨hdl _ x (by omega) hxl, hdl _ y hv4 hyl, hst1 huv⟩, by omega, ent_g zk⟩
   ·have k29 := of_decide_eq_false h29
    have hx0 : x = 0 := dig_len_zero.1 (by omega)
    have hg := hval.2.1 hx0
    have htm := htz m hm0 (by omega)
    refine T_exit ?_;refine zr ?_;(iterate 2 refine zz ?_);refine zo (ok_call rfl rfl (rup_spec (by omega) (by unfold cap; omega))) ?_;refine zz ?_;refine zzn ?_;refine T_ret ?_
    exact ⟨_, [], .one (.tmp rfl), List.nil_sublist _, by rw [hg], rfl⟩
end Go.Proofs
