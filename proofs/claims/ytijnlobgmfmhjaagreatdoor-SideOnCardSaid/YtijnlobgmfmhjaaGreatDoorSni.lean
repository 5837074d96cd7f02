/- Down of prod; bits: Mul64, Len32, LeadingZeros32, TrailingZeros64. -/
import Derived.Test.YtijnlobgmfmhjaaGreatDoorSnh
import Derived.Lib.BitFns
import Derived.Lib.Tables
import Derived.Lib.TrailingZeros
namespace Go.Proofs
open Go Go.Sv Num
variable {G : Imm}
theorem limb_drop (a : List Nat) (w i : Nat) : limb (a.drop w) i = limb a (w + i) := by simp [limb, List.getD_eq_getElem?_getD]
theorem digit_mid {x y s : Nat} (hs : s ≤ 32) : (x + 4294967296 * y) / 2 ^ s = y * 2 ^ (32 - s) + x / 2 ^ s := by
  have e := pow32 hs
  have e2 : x + 4294967296 * y = x + 2 ^ s * (y * 2 ^ (32 - s)) := by
    rw [Nat.mul_comm y, ← Nat.mul_assoc, ← e]
  rw [e2, Nat.add_mul_div_left _ _ (Nat.pow_pos (by omega)), Nat.add_comm]
theorem set_step {out : List Nat} {i z : Nat} {f d : Nat → Nat} (hi : i < out.length) (h1 : ∀ t, t < i → limb out t = f t) (h2 : ∀ t, i ≤ t → limb out t = d t) (hz : z = f i) :
    (∀ t, t < i + 1 → limb (out.set i z) t = f t) ∧ ∀ t, i + 1 ≤ t → limb (out.set i z) t = d t := by
  refine ⟨fun t ht => ?_, fun t ht => by rw [limb_set_ne (by omega)]; exact h2 t (by omega)⟩
  by_cases h : t = i
  · subst h; rw [limb_set_eq hi, hz]
  · rw [limb_set_ne (by omega)]; exact h1 t (by omega)
theorem and_mask (x : Nat) : x &&& 4294967295 = x % 4294967296 := Nat.and_two_pow_sub_one_eq_mod x 32
theorem mul64_hi {p q r s : Nat} : (p + 4294967296 * (q + r) + 18446744073709551616 * s) / 18446744073709551616 = s + (q + p / 4294967296) / 4294967296 + ((q + p / 4294967296) % 4294967296 + r) / 4294967296 := by omega
theorem mul64_split (x y : Nat) : x * y = x % 4294967296 * (y % 4294967296) + 4294967296 * (x / 4294967296 * (y % 4294967296) + x % 4294967296 * (y / 4294967296)) + 18446744073709551616 * (x / 4294967296 * (y / 4294967296)) := by
  have hx := Nat.mod_add_div x 4294967296
  have hy := Nat.mod_add_div y 4294967296
  generalize x % 4294967296 = a at *
  generalize x / 4294967296 = b at *
  generalize y % 4294967296 = c at *
  generalize y / 4294967296 = d at *
  subst hx; subst hy
  grind
theorem len8_get {i : Nat} (h : i < 256) : ∃ hk : i < Lib.len8tab.size, (Lib.len8tab[i]'hk).toNat = Lib.bitLen i := by
  have h' : i < Lib.len8tab.size := by rw [Lib.len8tab_size]; exact h
  refine ⟨h', ?_⟩
  have := Lib.len8_eq ⟨i, h⟩
  simp only [Lib.len8, Int.toNat_natCast, ByteArray.getElem?_lt' _ _ h', Option.getD_some] at this
  omega
theorem bitLen_small {x : Nat} (h : x < 256) : Lib.bitLen x ≤ 8 := Lib.bitLen_le8 ⟨x, h⟩
/-- the table of math/bits as it is laid -/
def tabV : Array Value := (Lib.deBruijn64tab.map fun n => Value.int .u8 (n : Nat)).toArray
class Tab (G : Imm) : Prop where
  h : G 0 = some tabV
theorem down_lt {x s : Nat} (hx : x < 4294967296) (hs : s < 32) : x / 2 ^ s < 2 ^ (32 - s) := by
  rw [Nat.div_lt_iff_lt_mul (Nat.pow_pos (by omega)), Nat.mul_comm, ← pow32 (by omega)]; exact hx
theorem clone_own {l : List Nat} (hl : l.length ≤ cap) (hne : l ≠ []) : CallSpec Tryz.prog G 104 [natS l] [] (fun s H' => ∃ b c, rowOk (some (b, c)) l.length ∧ s = eqS (rowV (some (b, c)) l.length) ∧ H' = [rowE (some (b, c)) 65 1 l.length (l.flatMap u32S)]) := by
  unfold cap at hl
  refine fn_spec Tryz.func104 rfl rfl rfl ?_
  refine T_regionS ?_
  refine Run.one (ok_assign rfl rfl) rfl rfl rfl ?_
  refine Run.nil ?_
  refine T_seq ?_
  refine T_regionS ?_
  refine Run.one (ok_move rfl rfl) rfl rfl rfl ?_
  refine Run.one (ok_eql_nil_if rfl rfl rfl) rfl rfl rfl ?_
  refine Run.nil ?_
  refine T_cond_if rfl rfl (fun h4 => ?_) ?_
  · exact absurd h4 hne
  · refine T_skip ?_
    refine T_regionS ?_
    refine Run.buildRow rfl rfl rfl rfl rfl rfl (by decide) rfl (.inl rfl) rfl rfl fun b5 hb5 => ?_
    refine Run.one (ok_move rfl rfl) rfl rfl rfl ?_
    refine Run.append 0 rfl rfl rfl rfl rfl rfl rfl rfl hb5 rfl flat_u32 (by unfold big; omega) (by unfold big; omega) fun q7 hq7 => ?_
    obtain _ | ⟨b, c⟩ := q7
    · exact absurd (List.eq_nil_of_length_eq_zero (by have : 0 + l.length = 0 := hq7; omega)) hne
    refine Run.one (ok_assign rfl rfl) rfl rfl rfl ?_
    refine Run.nil ?_
    refine T_ret ?_
    exact ⟨_, [_], .one (.tmp rfl), .refl _, b, c, (by rw [Nat.zero_add] at hq7; exact hq7), by rw [Nat.zero_add], by rw [Nat.zero_add]; rfl⟩
theorem down_spec {a : List Nat} {m k : Nat} [hm : IsNat a m] (hk : k ≤ 65536) (hs : a.length ≤ cap) : PSpec Tryz.prog G 127 [natS a, intS .i64 k] (natS (dig (m / 2 ^ k))) := by
  have hs0 := hs
  unfold cap at hs
  have hsl : k % 32 < 32 := Nat.mod_lt _ (by omega)
  have hd := div_pow hm.lim k
  rw [hm.val] at hd
  obtain ⟨d, hdd⟩ : ∃ d, d = a.drop (k / 32) := ⟨_, rfl⟩
  rw [← hdd] at hd
  have hdl : d.length = a.length - k / 32 := by rw [hdd]; simp
  have hld : Lim d := hdd ▸ lim_drop hm.lim _
  refine fn_spec Tryz.func127 rfl rfl rfl ?_
  refine T_regionS ?_
  refine Run.one (ok_assign rfl rfl) rfl rfl rfl ?_
  refine Run.nil ?_
  refine T_scope ?_
  refine T_regionS ?_
  refine Run.one (ok_move rfl rfl) rfl rfl rfl ?_
  refine Run.one ((ok_call rfl rfl count_spec).sub (int_eq (n := ((k : Nat) : Int)) (by omega))) rfl rfl rfl ?_
  refine Run.one (ok_assign rfl rfl) rfl rfl rfl ?_
  refine Run.nil ?_
  refine T_seq ?_
  refine T_regionS ?_
  refine Run.one (ok_move rfl rfl) rfl rfl rfl ?_
  refine Run.one ((ok_quo rfl rfl rfl (by omega) (by omega) (wrap_i64 (by omega) (by omega))).sub (int_eq (n := ((k / 32 : Nat) : Int)) (by omega))) rfl rfl rfl ?_
  refine Run.one (ok_move rfl rfl) rfl rfl rfl ?_
  refine Run.one (ok_len rfl rfl) rfl rfl rfl ?_
  refine Run.one (ok_cmp rfl rfl rfl rfl) rfl rfl rfl ?_
  refine Run.nil ?_
  refine T_cond rfl rfl (fun h13 => ?_) (fun h13 => ?_)
  · have k13 := of_decide_eq_true h13
    refine T_regionS ?_
    refine Run.one ((ok_assign rfl rfl).sub (nil_nat (l := dig (m / 2 ^ k)) (dig_eq_nil.2 (by rw [hd, List.eq_nil_of_length_eq_zero (l := d) (by omega)]; simp [val])))) rfl rfl rfl ?_
    refine Run.nil ?_
    refine T_ret ?_
    exact ⟨_, [], .one (.tmp rfl), List.nil_sublist _, rfl, rfl⟩
  · have k13 := of_decide_eq_false h13
    refine T_skip ?_
    refine T_regionS ?_
    refine Run.one (ok_move rfl rfl) rfl rfl rfl ?_
    refine Run.one (ok_move rfl rfl) rfl rfl rfl ?_
    refine Run.one ((ok_quo rfl rfl rfl (by omega) (by omega) (wrap_i64 (by omega) (by omega))).sub (int_eq (n := ((k / 32 : Nat) : Int)) (by omega))) rfl rfl rfl ?_
    refine Run.one ((ok_slice (lo := k / 32) (hi := a.length) (m := 0) rfl rfl (.inr ⟨_, _, rfl, rfl⟩) (.inl ⟨rfl, rfl, rfl⟩) (.inl rfl) (by omega) (Nat.le_refl _)).sub (show ∀ I v, _ → (natS d).den I v from fun I v h => by rw [List.take_length, ← hdd] at h; exact h)) rfl rfl rfl ?_
    refine Run.call0 rfl rfl rfl (clone_own (by unfold cap; omega) (fun h => by rw [h] at hdl; simp at hdl; omega)) rfl rfl rfl ?_
    rintro s H1 ⟨b, c, hb, rfl, rfl⟩
    refine Run.one (ok_assign rfl rfl) rfl rfl rfl ?_
    refine Run.nil ?_
    refine T_seq ?_
    refine T_label ?_
    refine T_seq ?_
    refine T_regionS ?_
    refine Run.one (ok_move rfl rfl) rfl rfl rfl ?_
    refine Run.one (ok_len_row rfl rfl hb) rfl rfl rfl ?_
    refine Run.one (ok_move rfl rfl) rfl rfl rfl ?_
    refine Run.nil ?_
    refine T_block ?_
    refine T_loop2 (fun i out => ⟨_, [(21, intS .i64 (i : Nat)), (20, intS .i64 d.length), (5, eqS (rowV (some (b, c)) d.length)), (1, intS .i64 (k : Nat))], [rowE (some (b, c)) 65 1 d.length (out.flatMap u32S)], [], (0, false)⟩)
        (fun i out => i ≤ d.length ∧ Lim out ∧ out.length = d.length ∧ (∀ t, t < i → limb out t = limb (dig (m / 2 ^ k)) t) ∧ ∀ t, i ≤ t → limb out t = limb d t) (fun i out => d.length - i)
        0 d ⟨Nat.zero_le _, hld, rfl, fun t h => by omega, fun t h => rfl⟩ (ent_h (subG_cons rfl (subG_cons rfl (subG_cons rfl (subG_cons rfl trivial)))) rfl) ?_
    rintro i out ⟨hi, hlo, hln, hz1, hz2⟩
    have hx := limb_lt hld i
    have hy := limb_lt hld (i + 1)
    have hdg := down_digit hm.lim (w := k / 32) (s := k % 32) (j := i) (by omega)
    rw [← hdd, ← hd, Nat.add_assoc, ← limb_drop, ← limb_drop, ← hdd] at hdg
    have hx2 : limb d i / 2 ^ (k % 32) ≤ limb d i := Nat.div_le_self _ _
    refine T_regionS ?_
    refine Run.one (ok_cmp rfl rfl rfl rfl) rfl rfl rfl ?_
    refine Run.nil ?_
    refine T_seq ?_
    refine T_cond rfl rfl (fun h22 => ?_) (fun h22 => ?_)
    · have k22 := of_decide_eq_true h22
      refine T_skip ?_
      refine T_seq ?_
      refine T_block ?_
      refine T_regionS ?_
      refine Run.one (ok_move rfl rfl) rfl rfl rfl ?_
      refine Run.one (ok_assign rfl rfl) rfl rfl rfl ?_
      refine Run.nil ?_
      refine T_regionS ?_
      refine Run.one (ok_move rfl rfl) rfl rfl rfl ?_
      refine Run.one (ok_move rfl rfl) rfl rfl rfl ?_
      refine Run.one (ok_indexRow (i := i) rfl rfl rfl (by omega)) rfl rfl rfl ?_
      refine Run.one (ok_loadRow 0 rfl rfl rfl (by omega)) rfl rfl rfl ?_
      refine Run.one (ok_move rfl rfl) rfl rfl rfl ?_
      refine Run.one ((ok_rem rfl rfl rfl (by omega) (by omega)).sub (int_eq (n := ((k % 32 : Nat) : Int)) (by omega))) rfl rfl rfl ?_
      refine Run.one ((ok_shr rfl rfl rfl (by omega) (by simp [IntKind.bits]; omega)).sub (int_eq (n := ((limb d i / 2 ^ (k % 32) : Nat) : Int)) ((shrN _ _).trans (by rw [hz2 i (Nat.le_refl _)])))) rfl rfl rfl ?_
      refine Run.one (ok_indexRow (i := i) rfl rfl rfl (by omega)) rfl rfl rfl ?_
      refine Run.storeRow 0 rfl rfl rfl rfl rfl (by omega) rfl rfl ?_
      refine Run.nil ?_
      refine T_seq ?_
      refine T_regionS ?_
      refine Run.one (ok_move rfl rfl) rfl rfl rfl ?_
      refine Run.one (ok_ari (z := ((i + 1 : Nat) : Int)) rfl rfl rfl (congrArg some (by omega)) (wrap_i64 (by omega) (by omega))) rfl rfl rfl ?_
      refine Run.one (ok_move rfl rfl) rfl rfl rfl ?_
      refine Run.one (ok_len_row rfl rfl hb) rfl rfl rfl ?_
      refine Run.oneB (ok_cmp rfl rfl rfl rfl) rfl rfl rfl (fun h9_4 => ?_) (fun h9_4 => ?_)
      · have k9_4 := of_decide_eq_true h9_4
        refine Run.one (ok_move rfl rfl) rfl rfl rfl ?_
        refine Run.no ⟨_, _, rfl, rfl, rfl⟩ rfl rfl ?_
        refine Run.no ⟨_, _, rfl, rfl, rfl⟩ rfl rfl ?_
        refine Run.no ⟨_, _, rfl, rfl, rfl⟩ rfl rfl ?_
        refine Run.one (ok_pick rfl rfl rfl) rfl rfl rfl ?_
        refine Run.nil ?_
        refine T_condT rfl rfl ?_
        refine T_exit ?_
        refine T_region ?_
        refine Run.one (ok_ari rfl rfl rfl rfl (wrap_i64 (by omega) (by omega))) rfl rfl rfl ?_
        refine Run.one (ok_move rfl rfl) rfl rfl rfl ?_
        refine Run.nil ?_
        obtain ⟨g1, g2⟩ := set_step (z := limb d i / 2 ^ (k % 32)) (f := limb (dig (m / 2 ^ k))) (d := limb d) (by omega) hz1 hz2 (by rw [hdg, limb_out (l := d) (i := i + 1) (by omega), Nat.mul_zero, Nat.add_zero]; exact (Nat.mod_eq_of_lt (by omega)).symm)
        exact ⟨i + 1, _, ⟨by omega, lim_set hlo (by omega), by rw [List.length_set]; exact hln, g1, g2⟩, by omega, ent_h (subG_cons rfl (subG_cons rfl (subG_cons rfl (subG_cons rfl trivial)))) rfl⟩
      · have k9_4 := of_decide_eq_false h9_4
        refine Run.one (ok_move rfl rfl) rfl rfl rfl ?_
        refine Run.one (ok_move rfl rfl) ⟨_, _, rfl, rfl, rfl⟩ rfl rfl ?_
        refine Run.one ((ok_rem rfl rfl rfl (by omega) (by omega)).sub (int_eq (n := ((k % 32 : Nat) : Int)) (by omega))) ⟨_, _, rfl, rfl, rfl⟩ rfl rfl ?_
        refine Run.one (ok_cmp rfl rfl rfl rfl) ⟨_, _, rfl, rfl, rfl⟩ rfl rfl ?_
        refine Run.one (ok_pick rfl rfl rfl) rfl rfl rfl ?_
        refine Run.nil ?_
        refine T_cond rfl rfl (fun h41 => ?_) (fun h41 => ?_)
        · have k41 := beq_iff_eq.1 h41
          refine T_exit ?_
          refine T_region ?_
          refine Run.one (ok_ari rfl rfl rfl rfl (wrap_i64 (by omega) (by omega))) rfl rfl rfl ?_
          refine Run.one (ok_move rfl rfl) rfl rfl rfl ?_
          refine Run.nil ?_
          obtain ⟨g1, g2⟩ := set_step (z := limb d i / 2 ^ (k % 32)) (f := limb (dig (m / 2 ^ k))) (d := limb d) (by omega) hz1 hz2 (by rw [hdg, show k % 32 = 0 by omega, Nat.pow_zero, Nat.div_one, Nat.div_one]; omega)
          exact ⟨i + 1, _, ⟨by omega, lim_set hlo (by omega), by rw [List.length_set]; exact hln, g1, g2⟩, by omega, ent_h (subG_cons rfl (subG_cons rfl (subG_cons rfl (subG_cons rfl trivial)))) rfl⟩
        · have k41 := beq_eq_false_iff_ne.1 h41
          refine T_skip ?_
          refine T_draw 15 (by kernel_rfl) ?_
          refine Run.one (ok_move rfl rfl) rfl rfl rfl ?_
          refine Run.one (ok_move rfl rfl) rfl rfl rfl ?_
          refine Run.one (ok_indexRow (i := i) rfl rfl rfl (by omega)) rfl rfl rfl ?_
          refine Run.one (ok_loadRow 0 rfl rfl rfl (by rw [List.length_set]; omega)) rfl rfl rfl ?_
          refine Run.one (ok_move rfl rfl) rfl rfl rfl ?_
          refine Run.one (ok_move rfl rfl) rfl rfl rfl ?_
          refine Run.one (ok_ari (z := ((i + 1 : Nat) : Int)) rfl rfl rfl (congrArg some (by omega)) (wrap_i64 (by omega) (by omega))) rfl rfl rfl ?_
          refine Run.one (ok_indexRow (i := i + 1) rfl rfl rfl (by omega)) rfl rfl rfl ?_
          refine Run.one (ok_loadRow 0 rfl rfl rfl (by rw [List.length_set]; omega)) rfl rfl rfl ?_
          refine Run.one (ok_move rfl rfl) rfl rfl rfl ?_
          refine Run.one ((ok_rem rfl rfl rfl (by omega) (by omega)).sub (int_eq (n := ((k % 32 : Nat) : Int)) (by omega))) rfl rfl rfl ?_
          refine Run.one (ok_ari (z := ((32 - k % 32 : Nat) : Int)) rfl rfl rfl (congrArg some (by omega)) (wrap_i64 (by omega) (by omega))) rfl rfl rfl ?_
          refine Run.one ((ok_shl rfl rfl rfl (by omega) (by simp [IntKind.bits]; omega)).sub (int_eq (n := ((limb d (i + 1) * 2 ^ (32 - k % 32) % 4294967296 : Nat) : Int)) (by rw [shlN, limb_set_ne (by omega), hz2 _ (by omega)]; exact wrap_u32_mod))) rfl rfl rfl ?_
          refine Run.one ((ok_bits rfl (by simp) rfl rfl).sub (int_eq (n := ((limb (dig (m / 2 ^ k)) i : Nat) : Int)) (by rw [limb_set_eq (by omega), bitI_or32 (by omega) (by omega), Nat.or_comm, (up_step (by omega) (down_lt hx hsl)).1, hdg, digit_mid (by omega)]))) rfl rfl rfl ?_
          refine Run.one (ok_indexRow (i := i) rfl rfl rfl (by omega)) rfl rfl rfl ?_
          refine Run.nil ?_
          refine Run.storeRow 0 rfl rfl rfl rfl rfl (by rw [List.length_set]; omega) rfl rfl ?_
          refine Run.nil ?_
          refine T_region ?_
          refine Run.one (ok_ari rfl rfl rfl rfl (wrap_i64 (by omega) (by omega))) rfl rfl rfl ?_
          refine Run.one (ok_move rfl rfl) rfl rfl rfl ?_
          refine Run.nil ?_
          obtain ⟨g1, g2⟩ := set_step (z := limb (dig (m / 2 ^ k)) i) (f := limb (dig (m / 2 ^ k))) (d := limb d) (by omega) hz1 hz2 rfl
          have hl3 := lim_set (i := i) hlo (limb_lt (lim_dig (m / 2 ^ k)) i)
          exact ⟨i + 1, (out.set i (limb d i / 2 ^ (k % 32))).set i (limb (dig (m / 2 ^ k)) i), ⟨by omega, by rw [List.set_set]; exact hl3, by rw [List.set_set, List.length_set]; exact hln, by rw [List.set_set]; exact g1, by rw [List.set_set]; exact g2⟩, by omega, ent_h (subG_cons rfl (subG_cons rfl (subG_cons rfl (subG_cons rfl trivial)))) rfl⟩
    · have k22 := of_decide_eq_false h22
      refine T_exit ?_
      refine T_regionS ?_
      have hql : (dig (m / 2 ^ k)).length ≤ d.length := dig_length_le (by rw [hd]; exact bd_le (val_lt hld) (Nat.div_le_self _ _) (Nat.le_refl _))
      have : IsNat out (m / 2 ^ k) := ⟨hlo, by rw [val_eq_of (n := d.length) (by omega) (by omega) (fun t ht => hz1 t (by omega)), val_dig]⟩
      refine Run.ghost _ rfl (ghost_sl 0 5 rfl rfl hb (l := out) (f := u32S) hln rfl flat_u32 (by unfold big; omega)) ?_
      refine Run.one (ok_move rfl rfl) rfl rfl rfl ?_
      refine Run.one (ok_call rfl rfl (trim_spec (by unfold cap; omega))) rfl rfl rfl ?_
      refine Run.one (ok_assign rfl rfl) rfl rfl rfl ?_
      refine Run.nil ?_
      refine T_ret ?_
      exact ⟨_, [], .one (.tmp rfl), List.nil_sublist _, rfl, rfl⟩
theorem mul64_spec {x y : Nat} (hx : x < 18446744073709551616) (hy : y < 18446744073709551616) : PSpec Tryz.prog G 139 [intS .u64 x, intS .u64 y] (tupS [intS .u64 (x * y / 18446744073709551616 : Nat), intS .u64 (x * y % 18446744073709551616 : Nat)]) := by
  have e := mul64_split x y
  obtain ⟨p, hp⟩ : ∃ p, p = x % 4294967296 * (y % 4294967296) := ⟨_, rfl⟩
  obtain ⟨q, hq⟩ : ∃ p, p = x / 4294967296 * (y % 4294967296) := ⟨_, rfl⟩
  obtain ⟨r, hr⟩ : ∃ p, p = x % 4294967296 * (y / 4294967296) := ⟨_, rfl⟩
  obtain ⟨s, hs⟩ : ∃ p, p = x / 4294967296 * (y / 4294967296) := ⟨_, rfl⟩
  rw [← hp, ← hq, ← hr, ← hs] at e
  have hp2 := Nat.mul_le_mul (show x % 4294967296 ≤ 4294967295 by omega) (show y % 4294967296 ≤ 4294967295 by omega)
  have hq2 := Nat.mul_le_mul (show x / 4294967296 ≤ 4294967295 by omega) (show y % 4294967296 ≤ 4294967295 by omega)
  have hr2 := Nat.mul_le_mul (show x % 4294967296 ≤ 4294967295 by omega) (show y / 4294967296 ≤ 4294967295 by omega)
  have hs2 := Nat.mul_le_mul (show x / 4294967296 ≤ 4294967295 by omega) (show y / 4294967296 ≤ 4294967295 by omega)
  rw [← hp] at hp2
  rw [← hq] at hq2
  rw [← hr] at hr2
  rw [← hs] at hs2
  refine fn_spec Tryz.func139 rfl rfl rfl ?_
  refine T_regionS ?_
  refine Run.one (ok_assign rfl rfl) rfl rfl rfl ?_
  refine Run.one (ok_assign rfl rfl) rfl rfl rfl ?_
  refine Run.nil ?_
  refine T_regionS ?_
  refine Run.one (ok_move rfl rfl) rfl rfl rfl ?_
  refine Run.one ((ok_bits rfl (by simp) rfl rfl).sub (int_eq (n := ((x % 4294967296 : Nat) : Int)) ((bitI_and (y := 4294967295) (by omega) (by omega)).trans (by rw [and_mask])))) rfl rfl rfl ?_
  refine Run.one (ok_assign rfl rfl) rfl rfl rfl ?_
  refine Run.nil ?_
  refine T_regionS ?_
  refine Run.one (ok_move rfl rfl) rfl rfl rfl ?_
  refine Run.one ((ok_shr rfl rfl rfl (by omega) (by simp [IntKind.bits])).sub (int_eq (shr32 _))) rfl rfl rfl ?_
  refine Run.one (ok_assign rfl rfl) rfl rfl rfl ?_
  refine Run.nil ?_
  refine T_regionS ?_
  refine Run.one (ok_move rfl rfl) rfl rfl rfl ?_
  refine Run.one ((ok_bits rfl (by simp) rfl rfl).sub (int_eq (n := ((y % 4294967296 : Nat) : Int)) ((bitI_and (y := 4294967295) (by omega) (by omega)).trans (by rw [and_mask])))) rfl rfl rfl ?_
  refine Run.one (ok_assign rfl rfl) rfl rfl rfl ?_
  refine Run.nil ?_
  refine T_regionS ?_
  refine Run.one (ok_move rfl rfl) rfl rfl rfl ?_
  refine Run.one ((ok_shr rfl rfl rfl (by omega) (by simp [IntKind.bits])).sub (int_eq (shr32 _))) rfl rfl rfl ?_
  refine Run.one (ok_assign rfl rfl) rfl rfl rfl ?_
  refine Run.nil ?_
  refine T_regionS ?_
  refine Run.one (ok_move rfl rfl) rfl rfl rfl ?_
  refine Run.one (ok_move rfl rfl) rfl rfl rfl ?_
  refine Run.one (ok_ari (z := ((p : Nat) : Int)) rfl rfl rfl (congrArg some (by rw [hp, Int.natCast_mul])) (wrap_u64 (by omega) (by omega))) rfl rfl rfl ?_
  refine Run.one (ok_assign rfl rfl) rfl rfl rfl ?_
  refine Run.nil ?_
  refine T_regionS ?_
  refine Run.one (ok_move rfl rfl) rfl rfl rfl ?_
  refine Run.one (ok_move rfl rfl) rfl rfl rfl ?_
  refine Run.one (ok_ari (z := ((q : Nat) : Int)) rfl rfl rfl (congrArg some (by rw [hq, Int.natCast_mul])) (wrap_u64 (by omega) (by omega))) rfl rfl rfl ?_
  refine Run.one (ok_move rfl rfl) rfl rfl rfl ?_
  refine Run.one ((ok_shr rfl rfl rfl (by omega) (by simp [IntKind.bits])).sub (int_eq (shr32 _))) rfl rfl rfl ?_
  refine Run.one (ok_ari (z := ((q + p / 4294967296 : Nat) : Int)) rfl rfl rfl (congrArg some (by omega)) (wrap_u64 (by omega) (by omega))) rfl rfl rfl ?_
  refine Run.one (ok_assign rfl rfl) rfl rfl rfl ?_
  refine Run.nil ?_
  refine T_regionS ?_
  refine Run.one (ok_move rfl rfl) rfl rfl rfl ?_
  refine Run.one ((ok_bits rfl (by simp) rfl rfl).sub (int_eq (n := (((q + p / 4294967296) % 4294967296 : Nat) : Int)) ((bitI_and (y := 4294967295) (by omega) (by omega)).trans (by rw [and_mask])))) rfl rfl rfl ?_
  refine Run.one (ok_assign rfl rfl) rfl rfl rfl ?_
  refine Run.nil ?_
  refine T_regionS ?_
  refine Run.one (ok_move rfl rfl) rfl rfl rfl ?_
  refine Run.one ((ok_shr rfl rfl rfl (by omega) (by simp [IntKind.bits])).sub (int_eq (shr32 _))) rfl rfl rfl ?_
  refine Run.one (ok_assign rfl rfl) rfl rfl rfl ?_
  refine Run.nil ?_
  refine T_regionS ?_
  refine Run.one (ok_move rfl rfl) rfl rfl rfl ?_
  refine Run.one (ok_move rfl rfl) rfl rfl rfl ?_
  refine Run.one (ok_move rfl rfl) rfl rfl rfl ?_
  refine Run.one (ok_ari (z := ((r : Nat) : Int)) rfl rfl rfl (congrArg some (by rw [hr, Int.natCast_mul])) (wrap_u64 (by omega) (by omega))) rfl rfl rfl ?_
  refine Run.one (ok_ari (z := (((q + p / 4294967296) % 4294967296 + r : Nat) : Int)) rfl rfl rfl (congrArg some (by omega)) (wrap_u64 (by omega) (by omega))) rfl rfl rfl ?_
  refine Run.one (ok_assign rfl rfl) rfl rfl rfl ?_
  refine Run.nil ?_
  refine T_regionS ?_
  refine Run.one (ok_move rfl rfl) rfl rfl rfl ?_
  refine Run.one (ok_move rfl rfl) rfl rfl rfl ?_
  refine Run.one (ok_ari (z := ((s : Nat) : Int)) rfl rfl rfl (congrArg some (by rw [hs, Int.natCast_mul])) (wrap_u64 (by omega) (by omega))) rfl rfl rfl ?_
  refine Run.one (ok_move rfl rfl) rfl rfl rfl ?_
  refine Run.one (ok_ari (z := ((s + (q + p / 4294967296) / 4294967296 : Nat) : Int)) rfl rfl rfl (congrArg some (by omega)) (wrap_u64 (by omega) (by omega))) rfl rfl rfl ?_
  refine Run.one (ok_move rfl rfl) rfl rfl rfl ?_
  refine Run.one ((ok_shr rfl rfl rfl (by omega) (by simp [IntKind.bits])).sub (int_eq (shr32 _))) rfl rfl rfl ?_
  refine Run.one (ok_ari (z := ((x * y / 18446744073709551616 : Nat) : Int)) rfl rfl rfl (congrArg some (by omega)) (wrap_u64 (by omega) (by omega))) rfl rfl rfl ?_
  refine Run.one (ok_assign rfl rfl) rfl rfl rfl ?_
  refine Run.nil ?_
  refine T_regionS ?_
  refine Run.one (ok_move rfl rfl) rfl rfl rfl ?_
  refine Run.one (ok_move rfl rfl) rfl rfl rfl ?_
  refine Run.one ((ok_ari_wrap rfl rfl rfl rfl).sub (int_eq (n := ((x * y % 18446744073709551616 : Nat) : Int)) (by rw [wrap_u64_mod, ← Int.natCast_mul]; rfl))) rfl rfl rfl ?_
  refine Run.one (ok_assign rfl rfl) rfl rfl rfl ?_
  refine Run.nil ?_
  refine T_ret ?_
  exact ⟨_, [], .many (.cons (.tmp rfl) (.cons (.tmp rfl) (.nil))), List.nil_sublist _, rfl, rfl⟩
end Go.Proofs
