/- straitref06 and the law DigitsTells, on the facts. -/
import Derived.Test.YtofplgefmjojjaaGreatDoorSse
import Derived.Test.YtofplgefmjojjaaGreatDoorSsk
namespace Num
open Go Go.Lib
theorem pd_snoc (k m : Nat) (h : k < 9) : pd (k + 1) m = dg (m % 1000000000) k :: pd k m := by
 rw [Nat.add_comm, pd_split, show (1000000000 : Nat) = 10 ^ 9 from rfl, dg_mod h]
 show [dg (m / 10 ^ k) 0] ++ pd k m = _
 rw [← dg_add]; rfl
theorem text_step {n m k : Nat} {s : List UInt8} (hdn : decDigits n = decDigits m ++ s) (hm0 : m ≠ 0) (hk : k ≤ 9) (hq : m / 1000000000 ≠ 0 ∨ k ≤ nDigits m) (he : k = 9 ∨ (m % 1000000000 / 10 ^ k = 0 ∧ m / 1000000000 = 0)) :
  m / 1000000000 = 0 ∧ pd k m ++ s = decDigits n ∨ m / 1000000000 ≠ 0 ∧ decDigits n = decDigits (m / 1000000000) ++ (pd k m ++ s) := by
 by_cases h : m / 1000000000 = 0
 ·refine .inl ⟨h, ?_⟩
  have hm : m < 10 ^ 9 := by have : (10 ^ 9 : Nat) = 1000000000 := rfl; omega
  have hmk : m < 10 ^ k := by
   rcases he with rfl | ⟨h1, _⟩
   ·exact hm
   ·rw [Nat.mod_eq_of_lt hm] at h1
    rcases Nat.div_eq_zero_iff.1 h1 with h2 | h2
    ·exact absurd h2 (Nat.ne_of_gt (Nat.pow_pos (by decide)))
    ·exact h2
  have hkp : k ≠ 0 := fun e => by rw [e] at hmk; have : m < 1 := hmk; omega
  obtain ⟨j, rfl⟩ : ∃ j, k = j + 1 := ⟨k - 1, by omega⟩
  have h1 := nDigits_le_of_lt hmk
  have h2 := hq.resolve_left fun g => g h
  rw [pd_dec h1, show j + 1 - nDigits m = 0 by omega, hdn]; rfl
 ·have hk9 : k = 9 := he.resolve_right fun g => h g.2
  refine .inr ⟨h, ?_⟩
  have h1 := dec_append (a := m / 1000000000) (n := m % 1000000000) (k := 9) h (Nat.mod_lt _ (by decide))
  rw [show m / 1000000000 * 10 ^ 9 + m % 1000000000 = m by omega, show (1000000000 : Nat) = 10 ^ 9 from rfl, pd_mod] at h1
  rw [hdn, h1, hk9, List.append_assoc]
theorem nDigits_more {m k : Nat} (h : m % 1000000000 / 10 ^ k ≠ 0) : k + 1 ≤ nDigits m := by
 refine Classical.byContradiction fun h1 => h ?_
 have h2 := lt_pow_nDigits m
 have h3 : m < 10 ^ k := Nat.lt_of_lt_of_le h2 (Nat.pow_le_pow_right (by decide) (by omega))
 exact Nat.div_eq_of_lt (Nat.lt_of_le_of_lt (Nat.mod_le _ _) h3)
theorem pre_cases (l : List UInt8) : (∃ r, l = 45 :: r ∧ hasPrefix l [45] = true ∧ trimPrefix l [45] = r) ∨ (l[0]? ≠ some 45 ∧ hasPrefix l [45] = false ∧ trimPrefix l [45] = l) := by
  cases l with
  | nil => exact .inr ⟨by simp, by decide, by decide⟩
  | cons c r =>
    by_cases h : c = 45
    · subst h
      have : hasPrefix (45 :: r) [45] = true := by simp [hasPrefix, List.isPrefixOf]
      exact .inl ⟨r, rfl, this, by unfold trimPrefix; rw [this]; rfl⟩
    · have : hasPrefix (c :: r) [45] = false := by simp [hasPrefix, List.isPrefixOf]; exact fun e => h e.symm
      exact .inr ⟨by simpa using h, this, by unfold trimPrefix; rw [this]; rfl⟩
theorem hp_pos' {l : List UInt8} {hp : Bool} (e : hp = hasPrefix l [45]) (h : 0 < l.length) : (((l.getD 0 0).toNat : Int) == 45) = hp := by
  subst e
  cases l with
  | nil => simp at h
  | cons c r =>
    by_cases h : c = 45
    · subst h; simp [hasPrefix, List.isPrefixOf]
    · have h2 : ¬ c.toNat = 45 := fun e => h (UInt8.toNat_inj.1 e)
      have : hasPrefix (c :: r) [45] = false := by simp [hasPrefix, List.isPrefixOf]; exact fun e => h e.symm
      rw [this]
      exact beq_eq_false_iff_ne.2 fun e => h2 (by have : ((c.toNat : Nat) : Int) = 45 := e; omega)
theorem hp_neg' {l : List UInt8} {hp : Bool} (e : hp = hasPrefix l [45]) (h : ¬ 0 < l.length) : false = hp := by
 rw [e, List.length_eq_zero_iff.1 (show l.length = 0 by omega)]; rfl
end Num
namespace Go.Proofs
open Go Go.Sv Num
variable {G : Imm}
theorem nat_eqD {m n : Nat} (h : m = n) (I : Imm) (v : Value) (hv : (natS (dig m)).den I v) : (natS (dig n)).den I v := h ▸ hv
theorem u8_dg {x i : Nat} (I : Imm) (v : Value) (h : (slS 1 id [[intS .u8 ((48 + x / 10 ^ i % 10 : Nat) : Int)]]).den I v) : (slS 1 u8S [Lib.dg x i]).den I v := by
 refine sl_map (f := u8S) (l := [Lib.dg x i]) ?_
 have h1 : x / 10 ^ i % 10 < 10 := Nat.mod_lt _ (by decide)
 have h2 : (Lib.dg x i).toNat = 48 + x / 10 ^ i % 10 := by unfold Lib.dg; exact dig_toNat h1
 rw [List.map_cons, List.map_nil, show u8S (Lib.dg x i) = [intS .u8 ((48 + x / 10 ^ i % 10 : Nat) : Int)] by unfold u8S; rw [h2]]
 exact h
theorem getD_get {s : List UInt8} {k : Nat} (h : k < s.length) : s[k]? = some (s.getD k 0) := by simp [h]
theorem rparse_spec {l : List UInt8} : PSpec Tryz.prog G 168 [strS l] (tupS [natS (dig (pvD l)), intS .i64 (peD l)]) := by
 refine fn_spec Tryz.func168 rfl rfl rfl ?_
 refine T_regionS ?_
 refine zo ((ok_assign rfl rfl).sub nat_nil) ?_
 refine zz ?_
 refine Run.nil ?_
 refine T_seq ?_
 refine T_regionS ?_
 refine zz ?_
 refine zo (ok_len_str rfl rfl) ?_
 refine Run.oneB (ok_cmp rfl rfl rfl rfl) rfl rfl rfl (fun h1_2 => ?_) (fun h1_2 => ?_)
 ·have k1_2 := of_decide_eq_true h1_2
  have hb := peD_bad (l := l) (by rw [List.length_eq_zero_iff.1 (show l.length = 0 by omega)]; rfl)
  refine zz ?_
  iterate 3 refine zq ?_
  refine zz ?_
  refine Run.nil ?_
  refine T_condT rfl rfl ?_
  refine T_regionS ?_
  refine zo ((ok_assign rfl rfl).sub nat_nil) ?_
  refine zz ?_
  refine Run.nil ?_
  refine T_ret ?_
  exact ⟨_, [], .many (.cons (.tmp rfl) (.cons (.tmp rfl) (.nil))), List.nil_sublist _, by rw [hb.1, hb.2], rfl⟩
 ·have k1_2 := of_decide_eq_false h1_2
  have hne : ¬ l = [] := fun e => by rw [e] at k1_2; simp at k1_2
  iterate 2 refine zz ?_
  refine zo (ok_len_str rfl rfl) ?_
  iterate 2 refine zz ?_
  refine Run.nil ?_
  refine T_cond rfl rfl (fun h13 => ?_) (fun h13 => ?_)
  ·have k13 := of_decide_eq_true h13
   have hb := peD_bad (l := l) (by unfold okD; rw [show decide (l.length ≤ 60) = false from decide_eq_false (by omega)]; simp)
   refine T_regionS ?_
   refine zo ((ok_assign rfl rfl).sub nat_nil) ?_
   refine zz ?_
   refine Run.nil ?_
   refine T_ret ?_
   exact ⟨_, [], .many (.cons (.tmp rfl) (.cons (.tmp rfl) (.nil))), List.nil_sublist _, by rw [hb.1, hb.2], rfl⟩
  ·have k13 := of_decide_eq_false h13
   refine T_skip ?_
   refine T_regionS ?_
   refine zo ((ok_assign rfl rfl).sub nat_nil) ?_
   refine Run.nil ?_
   refine T_seq ?_
   refine T_regionS ?_
   refine zz ?_
   refine Run.nil ?_
   refine T_block ?_
   refine T_loop (γ := Nat) (fun k => ⟨_, [(5, intS .i64 (k : Nat)), (4, natS (dig (valD (l.take k)))), (0, strS l)], [], [], (0, false)⟩) (fun k => k ≤ l.length ∧ (l.take k).all isD = true) (fun k => l.length - k) 0 ⟨Nat.zero_le _, rfl⟩ (ent_g zk) ?_
   rintro k ⟨hk, hall⟩
   refine T_seq ?_
   refine T_regionS ?_
   iterate 2 refine zz ?_
   refine zo (ok_len_str rfl rfl) ?_
   refine zz ?_
   refine Run.nil ?_
   refine T_cond rfl rfl (fun h17 => ?_) (fun h17 => ?_)
   ·have k17 := of_decide_eq_true h17
    have hkl : k < l.length := by omega
    have hget : l[k]? = some l[k] := List.getElem?_eq_getElem hkl
    refine T_skip ?_
    refine T_seq ?_
    refine T_block ?_
    refine T_seq ?_
    refine T_regionS ?_
    iterate 2 refine zz ?_
    refine zo (ok_index_str rfl rfl rfl (by omega) (c := l[k]) hget) ?_
    refine Run.oneB (ok_cmp rfl rfl rfl rfl) rfl rfl rfl (fun h7_3 => ?_) (fun h7_3 => ?_)
    ·have k7_3 := of_decide_eq_true h7_3
     have hb := peD_bad (okD_bad hkl (by simp only [isD, Bool.and_eq_false_iff, decide_eq_false_iff_not]; omega))
     refine zz ?_
     iterate 4 refine zq ?_
     refine zz ?_
     refine Run.nil ?_
     refine T_condT rfl rfl ?_
     refine T_regionS ?_
     refine zo ((ok_assign rfl rfl).sub nat_nil) ?_
     refine zz ?_
     refine Run.nil ?_
     refine T_ret ?_
     exact ⟨_, [], .many (.cons (.tmp rfl) (.cons (.tmp rfl) (.nil))), List.nil_sublist _, by rw [hb.1, hb.2], rfl⟩
    ·have k7_3 := of_decide_eq_false h7_3
     iterate 3 refine zz ?_
     refine zo (ok_index_str rfl rfl rfl (by omega) (c := l[k]) hget) ?_
     iterate 2 refine zz ?_
     refine Run.nil ?_
     refine T_cond rfl rfl (fun h29 => ?_) (fun h29 => ?_)
     ·have k29 := of_decide_eq_true h29
      have hb := peD_bad (okD_bad hkl (by simp only [isD, Bool.and_eq_false_iff, decide_eq_false_iff_not]; omega))
      refine T_regionS ?_
      refine zo ((ok_assign rfl rfl).sub nat_nil) ?_
      refine zz ?_
      refine Run.nil ?_
      refine T_ret ?_
      exact ⟨_, [], .many (.cons (.tmp rfl) (.cons (.tmp rfl) (.nil))), List.nil_sublist _, by rw [hb.1, hb.2], rfl⟩
     ·have k29 := of_decide_eq_false h29
      have hlt := Nat.lt_of_lt_of_le (valD_lt hall) (Nat.pow_le_pow_right (by decide) (show (l.take k).length ≤ 59 by rw [List.length_take]; omega))
      obtain ⟨v, hv⟩ : ∃ v, v = valD (l.take k) := ⟨_, rfl⟩
      have hvt := valD_take hkl
      have hdg := all_take hkl hall (by omega) (by omega)
      obtain ⟨c, hc⟩ : ∃ c, c = l[k].toNat := ⟨_, rfl⟩
      rw [← hv] at hlt hvt ⊢
      rw [← hc] at hvt
      have hc48 : 48 ≤ c ∧ c ≤ 57 := by omega
      have i1 : Bd v 7 := bd_dec (by omega)
      have i2 : Bd (v * 10) 7 := bd_dec (by omega)
      have i3 : Bd (c - 48) 1 := ⟨by omega⟩
      have i4 := isNat_lit (d := c - 48) (by omega)
      have i6 : Bd 10 1 := ⟨by decide⟩
      have i5 := isNat_lit (d := 10) (by decide)
      refine T_skip ?_
      refine T_draw 13 (by kernel_rfl) ?_
      refine zz ?_
      refine zo (ok_buildSlice rfl rfl (by decide) rfl (by simp) rfl rfl) ?_
      refine zo (ok_call rfl rfl ((rmul_spec (b := [10]) (n := 10) (by have := dig_length_le (k := 7) i1.h; unfold cap; simp; omega) ).args ⟨fun _ _ h => h, fun I v h => natLit (l := [10]) I v h, trivial⟩)) ?_
      iterate 2 refine zz ?_
      refine zo (ok_index_str rfl rfl rfl (by omega) (c := l[k]) hget) ?_
      refine zo (ok_ari (z := ((c - 48 : Nat) : Int)) rfl rfl rfl (congrArg some (by omega)) (by simp [IntKind.wrap, IntKind.bits, IntKind.signed]; omega)) ?_
      refine zo (ok_conv (z := ((c - 48 : Nat) : Int)) rfl rfl (wrap_u32 (by omega) (by omega))) ?_
      refine zo (ok_buildSlice rfl rfl (by decide) rfl (by simp) rfl rfl) ?_
      refine zo (ok_call rfl rfl ((rtrim_spec (l := [c - 48]) (n := c - 48) (show 1 ≤ cap by decide)).args ⟨fun I v h => natLit (l := [c - 48]) I v h, trivial⟩)) ?_
      refine zo (ok_buildSlice rfl rfl (by decide) rfl (by simp) rfl rfl) ?_
      refine zo (ok_call rfl rfl (radd2_spec (by decide))) ?_
      refine zz ?_
      iterate 2 refine Run.nil ?_
      refine T_region ?_
      refine zz ?_
      refine za ((k + 1 : Nat) : Int) ?_
      refine zz ?_
      refine Run.nil ?_
      exact ⟨k + 1, ⟨by omega, hdg⟩, by omega, ent_g (subG_cons rfl (subG_as rfl (congrArg (fun x => natS (dig x)) hvt.symm) (subG_cons rfl trivial)))⟩
   ·have k17 := of_decide_eq_false h17
    obtain rfl : k = l.length := by omega
    rw [List.take_length] at hall ⊢
    have hb := peD_ok (okD_of hne (by omega) hall)
    refine T_exit ?_
    refine T_regionS ?_
    iterate 3 refine zz ?_
    refine Run.nil ?_
    refine T_ret ?_
    exact ⟨_, [], .many (.cons (.tmp rfl) (.cons (.tmp rfl) (.nil))), List.nil_sublist _, by rw [hb.1, hb.2], rfl⟩
theorem rparseInt_spec {l : List UInt8} (hl : l.length ≤ 100000) : PSpec Tryz.prog G 167 [strS l] (tupS [aggS [boolS (Lib.hasPrefix l [45] && decide (0 < pvD (Lib.trimPrefix l [45]))), natS (dig (pvD (Lib.trimPrefix l [45])))], intS .i64 (peD (Lib.trimPrefix l [45]))]) := by
 obtain ⟨hp, hhp⟩ : ∃ hp, hp = Lib.hasPrefix l [45] := ⟨_, rfl⟩
 obtain ⟨tl, htl⟩ : ∃ tl, tl = Lib.trimPrefix l [45] := ⟨_, rfl⟩
 have hpc := pre_cases l
 rw [← hhp, ← htl] at hpc ⊢
 refine fn_spec Tryz.func167 rfl rfl rfl ?_
 refine T_regionS ?_
 refine Run.alloc rfl rfl rfl rfl rfl fun b2 => ?_
 refine zz ?_
 refine zx ?_
 refine zz ?_
 refine zo (ok_len_str rfl rfl) ?_
 refine Run.oneB (ok_cmp rfl rfl rfl rfl) rfl rfl rfl (fun h1_2 => ?_) (fun h1_2 => ?_)
 ·have k1_2 := of_decide_eq_true h1_2
  iterate 2 refine zz ?_
  refine zo (ok_index_str rfl rfl rfl (by omega) (c := l.getD 0 0) (getD_get (by omega))) ?_
  refine zz ?_
  refine zo ((ok_pick rfl rfl rfl).sub (bool_eq (c := hp) (by first | exact hp_pos' hhp (by omega) | exact hp_neg' hhp (by omega)))) ?_
  refine zz ?_
  refine Run.nil ?_
  refine T_seqQ (K := fun S1 => Ent S1 (⟨35, [(4, boolS hp), (2, eqS (.pointer (some ⟨b2, 0, none⟩))), (0, strS tl)], [⟨some b2, 26, [eqS (.bool false), eqS (.slice none 0 0)], 0⟩], [], (0, false)⟩)) ?_ ?_
  ·refine T_regionS ?_
   refine zz ?_
   refine Run.nil ?_
   refine T_cond rfl rfl (fun h15 => ?_) (fun h15 => ?_)
   ·have hdrop : l.drop 1 = tl := by rcases hpc with ⟨r, h1, h2, h3⟩ | ⟨h1, h2, h3⟩; rw [h1, h3]; rfl; rw [h15] at h2; cases h2
    have hll : 1 ≤ l.length := by rcases hpc with ⟨r, h1, h2, h3⟩ | ⟨h1, h2, h3⟩; rw [h1]; simp; rw [h15] at h2; cases h2
    refine T_region ?_
    refine zz ?_
    refine zo ((ok_slice_str (lo := 1) (hi := l.length) rfl rfl (.inr ⟨_, _, rfl, rfl⟩) (.inl ⟨rfl, rfl⟩) (by omega) (Nat.le_refl _)).sub (str_eq (m := tl) (by rw [List.take_length]; exact hdrop))) ?_
    refine zz ?_
    refine Run.nil ?_
    exact ent_h zk rfl
   ·obtain rfl : l = tl := by rcases hpc with ⟨r, h1, h2, h3⟩ | ⟨h1, h2, h3⟩; rw [h15] at h2; cases h2; exact h3.symm
    refine T_skip ?_
    exact ent_h zk rfl
  ·intro S1 hS1
   refine T_pre hS1 ?_
   refine T_regionS ?_
   refine zz ?_
   refine zf rparse_spec ?_
   iterate 5 refine zz ?_
   refine Run.nil ?_
   refine T_seq ?_
   refine T_regionS ?_
   iterate 2 refine zz ?_
   refine Run.nil ?_
   refine T_cond rfl rfl (fun h24 => ?_) (fun h24 => ?_)
   ·have k24 := bne_iff_ne.1 h24
    have hb := peD_bad (peD_ne k24)
    refine T_regionS ?_
    refine zo ((ok_build rfl rfl rfl).sub nilInt) ?_
    refine zz ?_
    refine zw ?_
    refine zz ?_
    refine Run.nil ?_
    refine T_ret ?_
    exact ⟨_, [], .many (.cons (.agg 0 inferInstance rfl rfl rfl rfl) (.cons (.tmp rfl) (.nil))), List.nil_sublist _, by first | (rw [hb.2, hb.1, show (hp && decide (0 < 0)) = false by simp]; rfl) | (rw [h7_0, k24]; rfl), rfl⟩
   ·have k24 := bne_eq_false_iff_eq.1 h24
    refine T_skip ?_
    refine T_regionS ?_
    refine Run.oneB (ok_move rfl rfl) rfl rfl rfl (fun h7_0 => ?_) (fun h7_0 => ?_)
    ·refine zz ?_
     iterate 2 refine zz ?_
     refine zo ((ok_cmp rfl rfl rfl rfl).sub (bool_eq (c := decide (0 < pvD tl)) (decide_eq_decide.2 (by have := dig_len_zero (n := pvD tl); omega)))) ?_
     iterate 3 refine zz ?_
     refine zw ?_
     refine zz ?_
     refine Run.nil ?_
     refine T_ret ?_
     exact ⟨_, [], .many (.cons (.agg 0 inferInstance rfl rfl rfl rfl) (.cons (.tmp rfl) (.nil))), List.nil_sublist _, by first | (rw [hb.2, hb.1, show (hp && decide (0 < 0)) = false by simp]; rfl) | (rw [h7_0, k24]; rfl), rfl⟩
    ·refine zz ?_
     iterate 3 refine zq ?_
     iterate 3 refine zz ?_
     refine zw ?_
     refine zz ?_
     refine Run.nil ?_
     refine T_ret ?_
     exact ⟨_, [], .many (.cons (.agg 0 inferInstance rfl rfl rfl rfl) (.cons (.tmp rfl) (.nil))), List.nil_sublist _, by first | (rw [hb.2, hb.1, show (hp && decide (0 < 0)) = false by simp]; rfl) | (rw [h7_0, k24]; rfl), rfl⟩
 ·have k1_2 := of_decide_eq_false h1_2
  refine zz ?_
  iterate 3 refine zq ?_
  refine zo ((ok_pick rfl rfl rfl).sub (bool_eq (c := hp) (by first | exact hp_pos' hhp (by omega) | exact hp_neg' hhp (by omega)))) ?_
  refine zz ?_
  refine Run.nil ?_
  refine T_seqQ (K := fun S1 => Ent S1 (⟨35, [(4, boolS hp), (2, eqS (.pointer (some ⟨b2, 0, none⟩))), (0, strS tl)], [⟨some b2, 26, [eqS (.bool false), eqS (.slice none 0 0)], 0⟩], [], (0, false)⟩)) ?_ ?_
  ·refine T_regionS ?_
   refine zz ?_
   refine Run.nil ?_
   refine T_cond rfl rfl (fun h15 => ?_) (fun h15 => ?_)
   ·have hdrop : l.drop 1 = tl := by rcases hpc with ⟨r, h1, h2, h3⟩ | ⟨h1, h2, h3⟩; rw [h1, h3]; rfl; rw [h15] at h2; cases h2
    have hll : 1 ≤ l.length := by rcases hpc with ⟨r, h1, h2, h3⟩ | ⟨h1, h2, h3⟩; rw [h1]; simp; rw [h15] at h2; cases h2
    refine T_region ?_
    refine zz ?_
    refine zo ((ok_slice_str (lo := 1) (hi := l.length) rfl rfl (.inr ⟨_, _, rfl, rfl⟩) (.inl ⟨rfl, rfl⟩) (by omega) (Nat.le_refl _)).sub (str_eq (m := tl) (by rw [List.take_length]; exact hdrop))) ?_
    refine zz ?_
    refine Run.nil ?_
    exact ent_h zk rfl
   ·obtain rfl : l = tl := by rcases hpc with ⟨r, h1, h2, h3⟩ | ⟨h1, h2, h3⟩; rw [h15] at h2; cases h2; exact h3.symm
    refine T_skip ?_
    exact ent_h zk rfl
  ·intro S1 hS1
   refine T_pre hS1 ?_
   refine T_regionS ?_
   refine zz ?_
   refine zf rparse_spec ?_
   iterate 5 refine zz ?_
   refine Run.nil ?_
   refine T_seq ?_
   refine T_regionS ?_
   iterate 2 refine zz ?_
   refine Run.nil ?_
   refine T_cond rfl rfl (fun h24 => ?_) (fun h24 => ?_)
   ·have k24 := bne_iff_ne.1 h24
    have hb := peD_bad (peD_ne k24)
    refine T_regionS ?_
    refine zo ((ok_build rfl rfl rfl).sub nilInt) ?_
    refine zz ?_
    refine zw ?_
    refine zz ?_
    refine Run.nil ?_
    refine T_ret ?_
    exact ⟨_, [], .many (.cons (.agg 0 inferInstance rfl rfl rfl rfl) (.cons (.tmp rfl) (.nil))), List.nil_sublist _, by first | (rw [hb.2, hb.1, show (hp && decide (0 < 0)) = false by simp]; rfl) | (rw [h7_0, k24]; rfl), rfl⟩
   ·have k24 := bne_eq_false_iff_eq.1 h24
    refine T_skip ?_
    refine T_regionS ?_
    refine Run.oneB (ok_move rfl rfl) rfl rfl rfl (fun h7_0 => ?_) (fun h7_0 => ?_)
    ·refine zz ?_
     iterate 2 refine zz ?_
     refine zo ((ok_cmp rfl rfl rfl rfl).sub (bool_eq (c := decide (0 < pvD tl)) (decide_eq_decide.2 (by have := dig_len_zero (n := pvD tl); omega)))) ?_
     iterate 3 refine zz ?_
     refine zw ?_
     refine zz ?_
     refine Run.nil ?_
     refine T_ret ?_
     exact ⟨_, [], .many (.cons (.agg 0 inferInstance rfl rfl rfl rfl) (.cons (.tmp rfl) (.nil))), List.nil_sublist _, by first | (rw [hb.2, hb.1, show (hp && decide (0 < 0)) = false by simp]; rfl) | (rw [h7_0, k24]; rfl), rfl⟩
    ·refine zz ?_
     iterate 3 refine zq ?_
     iterate 3 refine zz ?_
     refine zw ?_
     refine zz ?_
     refine Run.nil ?_
     refine T_ret ?_
     exact ⟨_, [], .many (.cons (.agg 0 inferInstance rfl rfl rfl rfl) (.cons (.tmp rfl) (.nil))), List.nil_sublist _, by first | (rw [hb.2, hb.1, show (hp && decide (0 < 0)) = false by simp]; rfl) | (rw [h7_0, k24]; rfl), rfl⟩
theorem rtext_spec {l : List Nat} {n k : Nat} [hn : IsNat l n] [hk : Sz l k] (hl : k ≤ 1000) : PSpec Tryz.prog G 88 [natS l] (strS (dec n)) := by
  have hkl := hk.h
  have hbn : n < 4294967296 ^ l.length := by rw [← hn.val]; exact val_lt hn.lim
  have hdn : (dec n).length ≤ 20000 := by
    rw [dec_len]
    have h1 := pls_len hbn
    have h2 := lt_pls n
    obtain ⟨q, hq⟩ : ∃ q, q = 9 * (pls n).length := ⟨_, rfl⟩
    rw [← hq] at h2
    cases q with
    | zero => have : n = 0 := by simpa using h2
              rw [this, Lib.nDigits_small (by decide)]; decide
    | succ q => have := nDigits_le_of_lt h2; omega
  refine fn_spec Tryz.func88 rfl rfl rfl ?_
  refine T_regionS ?_
  refine zz ?_
  refine zx ?_
  refine zz ?_
  refine zo (ok_call rfl rfl (rtrim_spec (by unfold cap; omega))) ?_
  refine zz ?_
  refine Run.nil ?_
  refine T_seq ?_
  refine T_regionS ?_
  iterate 3 refine zz ?_
  refine Run.nil ?_
  refine T_cond rfl rfl (fun h13 => ?_) (fun h13 => ?_)
  · have k13 := beq_iff_eq.1 h13
    have hn0 : n = 0 := by have := dig_len_zero (n := n); omega
    refine T_regionS ?_
    refine zz ?_
    refine Run.nil ?_
    refine T_ret ?_
    exact ⟨_, [], .one (.tmp rfl), List.nil_sublist _, by rw [hn0, show dec 0 = [48] from dec_zero]; rfl, rfl⟩
  · have k13 := beq_eq_false_iff_ne.1 h13
    have hn0 : n ≠ 0 := fun h => by have := dig_len_zero (n := n); omega
    refine T_skip ?_
    refine T_regionS ?_
    refine zz ?_
    refine Run.nil ?_
    refine T_seq ?_
    refine T_block ?_
    refine T_loop2 (fun m s => ⟨_, [(3, strS s), (0, natS (dig m))], [], [], (0, false)⟩) (fun m s => m < 4294967296 ^ l.length ∧ (m = 0 ∧ s = dec n ∨ m ≠ 0 ∧ dec n = dec m ++ s)) (fun m _ => m) n [] ⟨hbn, .inr ⟨hn0, (List.append_nil _).symm⟩⟩ (ent_g zk) ?_
    rintro m s ⟨hm, hs⟩
    have hml := dig_length_le hm
    refine T_seq ?_
    refine T_regionS ?_
    iterate 3 refine zz ?_
    refine Run.nil ?_
    refine T_cond rfl rfl (fun h16 => ?_) (fun h16 => ?_)
    · have k16 := of_decide_eq_true h16
      have hm0 : m ≠ 0 := fun h => by have := dig_len_zero (n := m); omega
      have hdm : dec n = dec m ++ s := (hs.resolve_left fun h => hm0 h.1).2
      have hsl : s.length ≤ 20000 := by rw [hdm, List.length_append] at hdn; omega
      have hmb := hm
      have hr := Nat.mod_lt m (show 0 < 1000000000 by decide)
      have hmx : m / 1000000000 < m := Nat.div_lt_self (by omega) (by decide)
      have i5 := isNat_lit (d := 1000000000) (by decide)
      refine T_skip ?_
      refine T_block ?_
      refine T_regionS ?_
      refine zz ?_
      refine zo (ok_buildSlice rfl rfl (by decide) rfl (by simp) rfl rfl) ?_
      refine zo (ok_call rfl rfl ((rdiv_spec (b := [1000000000]) (n := 1000000000) (by unfold cap; omega) (by unfold cap; simp)).args ⟨fun _ _ h => h, fun I v h => natLit (l := [1000000000]) I v h, trivial⟩)) ?_
      iterate 2 refine zz ?_
      refine zo ((ok_extract rfl rfl rfl).sub (nat_eqD (n := m % 1000000000) (if_neg (by decide)))) ?_
      iterate 4 refine zz ?_
      refine zx ?_
      refine zz ?_
      refine Run.nil ?_
      refine T_seqQ (K := fun S1 => Ent S1 (⟨55, [(7, intS .u32 (m % 1000000000 : Nat)), (4, natS (dig (m / 1000000000))), (3, strS s)], [], [], (0, false)⟩)) ?_ ?_
      · refine T_regionS ?_
        iterate 3 refine zz ?_
        refine Run.nil ?_
        refine T_cond rfl rfl (fun h26 => ?_) (fun h26 => ?_)
        · have k26 := of_decide_eq_true h26
          have hr0 : m % 1000000000 ≠ 0 := fun h => by have := dig_len_zero (n := m % 1000000000); omega
          refine T_region ?_
          refine zz ?_
          refine zo (ok_indexAddr rfl rfl rfl (by omega) (y := m % 1000000000) (by rw [dig_pos hr0, Nat.mod_eq_of_lt (by omega)]; rfl)) ?_
          iterate 2 refine zz ?_
          refine Run.nil ?_
          exact ent_g zk
        · have k26 := of_decide_eq_false h26
          have hr0 : m % 1000000000 = 0 := by have := dig_len_zero (n := m % 1000000000); omega
          refine T_skip ?_
          exact ent_g (subG_as rfl (by rw [hr0]; rfl) (subG_cons rfl (subG_cons rfl (trivial))))
      · intro S1 hS1
        refine T_pre hS1 ?_
        refine T_seq ?_
        refine T_regionS ?_
        refine zz ?_
        refine Run.nil ?_
        refine T_block ?_
        refine T_loop (γ := Nat) (fun k => ⟨_, [(8, intS .i64 (k : Nat)), (7, intS .u32 (m % 1000000000 / 10 ^ k : Nat)), (4, natS (dig (m / 1000000000))), (3, strS (pd k m ++ s))], [], [], (0, false)⟩) (fun k => k ≤ 9 ∧ (m / 1000000000 ≠ 0 ∨ k ≤ Lib.nDigits m)) (fun k => 9 - k) 0 ⟨Nat.zero_le _, .inr (Nat.zero_le _)⟩ (ent_g (subG_cons rfl (subG_as rfl (by rw [Nat.pow_zero, Nat.div_one]) (subG_cons rfl (subG_cons rfl trivial))))) ?_
        rintro k ⟨hk9, hkq⟩
        have hpl : (pd k m).length = k := pd_length k m
        have hdl := Nat.div_le_self (m % 1000000000) (10 ^ k)
        have hqz := dig_len_zero (n := m / 1000000000)
        obtain ⟨u, hu⟩ : ∃ u, u = m % 1000000000 / 10 ^ k := ⟨_, rfl⟩
        rw [← hu] at hdl ⊢
        have hud : u / 10 = m % 1000000000 / 10 ^ (k + 1) := by rw [hu, Nat.div_div_eq_div_mul, Nat.pow_succ]
        refine T_seq ?_
        refine T_regionS ?_
        refine zz ?_
        refine Run.oneB (ok_cmp rfl rfl rfl rfl) rfl rfl rfl (fun h11_1 => ?_) (fun h11_1 => ?_)
        · have k11_1 := of_decide_eq_true h11_1
          iterate 2 refine zz ?_
          refine Run.oneB (ok_cmp rfl rfl rfl rfl) (gB rfl rfl rfl rfl) rfl rfl (fun h11_4 => ?_) (fun h11_4 => ?_)
          · have k11_4 := of_decide_eq_true h11_4
            have hkn : m / 1000000000 ≠ 0 ∨ k + 1 ≤ Lib.nDigits m := .inr (nDigits_more (by omega))
            refine zz ?_
            iterate 3 refine zq ?_
            iterate 2 refine zz ?_
            refine Run.nil ?_
            refine T_condT rfl rfl ?_
            refine T_skip ?_
            refine T_seq ?_
            refine T_block ?_
            refine T_regionS ?_
            refine zz ?_
            refine zo (ok_rem rfl rfl rfl (by omega) (by omega)) ?_
            refine zo (ok_ari (z := ((48 + u % 10 : Nat) : Int)) rfl rfl rfl (congrArg some (by omega)) (wrap_u32 (by omega) (by omega))) ?_
            refine zo (ok_conv (z := ((48 + m % 1000000000 / 10 ^ k % 10 : Nat) : Int)) rfl rfl (by rw [← hu]; simp [IntKind.wrap, IntKind.bits, IntKind.signed]; omega)) ?_
            refine zo (ok_buildSlice rfl rfl (by decide) rfl (by simp) rfl rfl) ?_
            refine zo (ok_str_of rfl rfl (u8_dg (x := m % 1000000000) (i := k))) ?_
            refine zz ?_
            refine zo ((ok_add_str rfl rfl rfl (by rw [List.length_append, hpl]; simp; omega)).sub (str_eq (m := pd (k + 1) m ++ s) (by rw [pd_snoc k m (by omega)]; rfl))) ?_
            refine zz ?_
            refine Run.nil ?_
            refine T_region ?_
            refine zz ?_
            refine zo (ok_quo rfl rfl rfl (by omega) (by omega) (wrap_u32 (by omega) (by omega))) ?_
            refine zz ?_
            refine Run.nil ?_
            refine T_region ?_
            refine zz ?_
            refine za ((k + 1 : Nat) : Int) ?_
            refine zz ?_
            refine Run.nil ?_
            exact ⟨k + 1, ⟨by omega, hkn⟩, by omega, ent_g (subG_cons rfl (subG_as rfl (by rw [← hud, Int.natCast_ediv]; rfl) (subG_cons rfl (subG_cons rfl (trivial)))))⟩
          · have k11_4 := of_decide_eq_false h11_4
            iterate 6 refine zz ?_
            refine Run.nil ?_
            refine T_cond rfl rfl (fun h40 => ?_) (fun h40 => ?_)
            · have k40 := of_decide_eq_true h40
              have hkn : m / 1000000000 ≠ 0 ∨ k + 1 ≤ Lib.nDigits m := by first | exact hkn | exact .inl (by omega)
              refine T_skip ?_
              refine T_seq ?_
              refine T_block ?_
              refine T_regionS ?_
              refine zz ?_
              refine zo (ok_rem rfl rfl rfl (by omega) (by omega)) ?_
              refine zo (ok_ari (z := ((48 + u % 10 : Nat) : Int)) rfl rfl rfl (congrArg some (by omega)) (wrap_u32 (by omega) (by omega))) ?_
              refine zo (ok_conv (z := ((48 + m % 1000000000 / 10 ^ k % 10 : Nat) : Int)) rfl rfl (by rw [← hu]; simp [IntKind.wrap, IntKind.bits, IntKind.signed]; omega)) ?_
              refine zo (ok_buildSlice rfl rfl (by decide) rfl (by simp) rfl rfl) ?_
              refine zo (ok_str_of rfl rfl (u8_dg (x := m % 1000000000) (i := k))) ?_
              refine zz ?_
              refine zo ((ok_add_str rfl rfl rfl (by rw [List.length_append, hpl]; simp; omega)).sub (str_eq (m := pd (k + 1) m ++ s) (by rw [pd_snoc k m (by omega)]; rfl))) ?_
              refine zz ?_
              refine Run.nil ?_
              refine T_region ?_
              refine zz ?_
              refine zo (ok_quo rfl rfl rfl (by omega) (by omega) (wrap_u32 (by omega) (by omega))) ?_
              refine zz ?_
              refine Run.nil ?_
              refine T_region ?_
              refine zz ?_
              refine za ((k + 1 : Nat) : Int) ?_
              refine zz ?_
              refine Run.nil ?_
              exact ⟨k + 1, ⟨by omega, hkn⟩, by omega, ent_g (subG_cons rfl (subG_as rfl (by rw [← hud, Int.natCast_ediv]; rfl) (subG_cons rfl (subG_cons rfl (trivial)))))⟩
            · have k40 := of_decide_eq_false h40
              have hst := text_step hdm hm0 hk9 hkq (.inr ⟨by omega, by omega⟩)
              refine T_exit ?_
              refine T_region ?_
              iterate 2 refine zz ?_
              refine Run.nil ?_
              exact ⟨m / 1000000000, pd k m ++ s, ⟨by omega, hst⟩, hmx, ent_g (subG_cons rfl (subG_cons rfl (trivial)))⟩
        · have k11_1 := of_decide_eq_false h11_1
          have hst := text_step hdm hm0 hk9 hkq (.inl (by omega))
          refine zz ?_
          iterate 7 refine zq ?_
          refine zz ?_
          refine Run.nil ?_
          refine T_condF rfl rfl ?_
          refine T_exit ?_
          refine T_region ?_
          iterate 2 refine zz ?_
          refine Run.nil ?_
          exact ⟨m / 1000000000, pd k m ++ s, ⟨by omega, hst⟩, hmx, ent_g (subG_cons rfl (subG_cons rfl (trivial)))⟩
    · have k16 := of_decide_eq_false h16
      have hm0 : m = 0 := by have := dig_len_zero (n := m); omega
      have hsn : s = dec n := (hs.resolve_right fun h => h.1 hm0).2
      refine T_exit ?_
      refine T_regionS ?_
      iterate 2 refine zz ?_
      refine Run.nil ?_
      refine T_ret ?_
      exact ⟨_, [], .one (.tmp rfl), List.nil_sublist _, by rw [hsn], rfl⟩
theorem ritext_spec {b : Bool} {l : List Nat} {n k : Nat} [hn : IsNat l n] [hk : Sz l k] (hl : k ≤ 1000) : PSpec Tryz.prog G 169 [aggS [boolS b, natS l]] (strS (idec b n)) := by
  have hkl := hk.h
  have hbn : n < 4294967296 ^ l.length := by rw [← hn.val]; exact val_lt hn.lim
  have hdn : (dec n).length ≤ 20000 := by
    rw [dec_len]
    have h1 := pls_len hbn
    have h2 := lt_pls n
    obtain ⟨q, hq⟩ : ∃ q, q = 9 * (pls n).length := ⟨_, rfl⟩
    rw [← hq] at h2
    cases q with
    | zero => have : n = 0 := by simpa using h2
              rw [this, Lib.nDigits_small (by decide)]; decide
    | succ q => have := nDigits_le_of_lt h2; omega
  refine fn_spec Tryz.func169 rfl rfl rfl ?_
  refine T_regionS ?_
  iterate 2 refine zz ?_
  refine zx ?_
  iterate 2 refine zz ?_
  refine zf (rtext_spec hl) ?_
  refine zz ?_
  refine Run.nil ?_
  refine T_seq ?_
  refine T_regionS ?_
  refine zz ?_
  refine Run.oneB (ok_load rfl rfl) rfl rfl rfl (fun h2_1 => ?_) (fun h2_1 => ?_)
  · have hb : b = true := by simpa using h2_1
    iterate 2 refine zz ?_
    refine zo (ok_cmp_str rfl rfl rfl rfl) ?_
    refine zz ?_
    refine Run.nil ?_
    refine T_cond rfl rfl (fun h12 => ?_) (fun h12 => ?_)
    · have h1 : ¬ dec n = [48] := by first | exact (bne_iff_ne.1 h12) | simpa using h12
      refine T_regionS ?_
      refine zz ?_
      refine zo (ok_add_str rfl rfl rfl (by simp; omega)) ?_
      refine zz ?_
      refine Run.nil ?_
      refine T_ret ?_
      exact ⟨_, [], .one (.tmp rfl), List.nil_sublist _, by unfold idec; rw [if_pos (by rw [dec_one] at h1; simp [h1, hb])]; rfl, rfl⟩
    · have h1 : dec n = [48] := by first | exact (by simpa using h12)
      refine T_skip ?_
      refine T_regionS ?_
      iterate 2 refine zz ?_
      refine Run.nil ?_
      refine T_ret ?_
      exact ⟨_, [], .one (.tmp rfl), List.nil_sublist _, by unfold idec; rw [if_neg (by rw [dec_one] at h1; simp [h1])], rfl⟩
  · have hb : b = false := by simpa using h2_1
    refine zz ?_
    iterate 2 refine zq ?_
    refine zz ?_
    refine Run.nil ?_
    refine T_condF rfl rfl ?_
    refine T_skip ?_
    refine T_regionS ?_
    iterate 2 refine zz ?_
    refine Run.nil ?_
    refine T_ret ?_
    exact ⟨_, [], .one (.tmp rfl), List.nil_sublist _, by unfold idec; rw [hb]; rfl, rfl⟩
end Go.Proofs
