/- straitref06 and the law DigitsTells, on the facts. -/
import Derived.Test.YtofplgefmjojjaaGreatDoorSse
import Derived.Test.YtofplgefmjojjaaGreatDoorSsk
namespace Num
open Go Go.Lib
theorem pre_cases (l : List UInt8) : (∃ r, l = 45 :: r ∧ hasPrefix l [45] = true ∧ trimPrefix l [45] = r) ∨ (l[0]? ≠ some 45 ∧ hasPrefix l [45] = false ∧ trimPrefix l [45] = l) := by
  cases l with
  | nil => exact .inr ⟨by simp, by decide, by decide⟩
  | cons c r =>
    by_cases h : c = 45
    · subst h
      have : hasPrefix (45 :: r) [45] = true := by simp [hasPrefix, List.isPrefixOf]
      exact .inl ⟨r, rfl, this, by unfold trimPrefix; rw [this]; rfl⟩
    · have : hasPrefix (c :: r) [45] = false := by simp [hasPrefix, List.isPrefixOf]; exact fun e => h e.symm
      exact .inr ⟨by simpa using h, this, by unfold trimPrefix; rw [this]; rfl⟩
theorem hp_pos' {l : List UInt8} {hp : Bool} (e : hp = hasPrefix l [45]) (h : 0 < l.length) : (((l.getD 0 0).toNat : Int) == 45) = hp := by
  subst e
  cases l with
  | nil => simp at h
  | cons c r =>
    by_cases h : c = 45
    · subst h; simp [hasPrefix, List.isPrefixOf]
    · have h2 : ¬ c.toNat = 45 := fun e => h (UInt8.toNat_inj.1 e)
      have : hasPrefix (c :: r) [45] = false := by simp [hasPrefix, List.isPrefixOf]; exact fun e => h e.symm
      rw [this]
      exact beq_eq_false_iff_ne.2 fun e => h2 (by have : ((c.toNat : Nat) : Int) = 45 := e; omega)
theorem hp_neg' {l : List UInt8} {hp : Bool} (e : hp = hasPrefix l [45]) (h : ¬ 0 < l.length) : false = hp := by
 rw [e, List.length_eq_zero_iff.1 (show l.length = 0 by omega)]; rfl
end Num
namespace Go.Proofs
open Go Go.Sv Num
variable {G : Imm}
theorem getD_get {s : List UInt8} {k : Nat} (h : k < s.length) : s[k]? = some (s.getD k 0) := by simp [h]
theorem rparse_spec {l : List UInt8} : PSpec Tryz.prog G 168 [strS l] (tupS [natS (dig (pvD l)), intS .i64 (peD l)]) := by
 refine zs Tryz.func168 ?_;refine zr ?_;refine zo ((ok_assign rfl rfl).sub nat_nil) ?_;refine zz ?_;refine zzn ?_;refine T_seq ?_;refine zr ?_;refine zz ?_;refine zo (ok_len_str rfl rfl) ?_
 refine Run.oneB (ok_cmp rfl rfl rfl rfl) rfl rfl rfl (fun h1_2 => ?_) (fun h1_2 => ?_)
 ·have k1_2 := of_decide_eq_true h1_2
  have hb := peD_bad (l := l) (by rw [List.length_eq_zero_iff.1 (show l.length = 0 by omega)]; rfl)
  refine zz ?_;(iterate 3 refine zq ?_);refine zz ?_;refine zzn ?_;refine T_condT rfl rfl ?_;refine zr ?_;refine zo ((ok_assign rfl rfl).sub nat_nil) ?_;refine zz ?_;refine zzn ?_;refine T_ret ?_
  exact ⟨_, [], .many (.cons (.tmp rfl) (.cons (.tmp rfl) (.nil))), List.nil_sublist _, by rw [hb.1, hb.2], rfl⟩
 ·have k1_2 := of_decide_eq_false h1_2
  have hne : ¬ l = [] := fun e => by rw [e] at k1_2; simp at k1_2
  (iterate 2 refine zz ?_);refine zo (ok_len_str rfl rfl) ?_;(iterate 2 refine zz ?_);refine zzn ?_;refine zzc (fun h13 => ?_) fun h13 => ?_
  ·have k13 := of_decide_eq_true h13
   have hb := peD_bad (l := l) (by unfold okD; rw [show decide (l.length ≤ 60) = false from decide_eq_false (by omega)]; simp)
   refine zr ?_;refine zo ((ok_assign rfl rfl).sub nat_nil) ?_;refine zz ?_;refine zzn ?_;refine T_ret ?_
   exact ⟨_, [], .many (.cons (.tmp rfl) (.cons (.tmp rfl) (.nil))), List.nil_sublist _, by rw [hb.1, hb.2], rfl⟩
  ·have k13 := of_decide_eq_false h13
   refine T_skip ?_;refine zr ?_;refine zo ((ok_assign rfl rfl).sub nat_nil) ?_;refine zzn ?_;refine T_seq ?_;refine zr ?_;refine zz ?_;refine zzn ?_;refine T_block ?_;refine T_loop (γ := Nat) (fun k => ⟨_, [(5, intS .i64 (k : Nat)), (4, natS (dig (valD (l.take k)))), (0, strS l)], [], [], (0, false)⟩) (fun k => k ≤ l.length ∧ (l.take k).all isD = true) (fun k => l.length - k) 0 ⟨Nat.zero_le _, rfl⟩ (ent_g zk) ?_
   rintro k ⟨hk, hall⟩
   refine T_seq ?_;refine zr ?_;(iterate 2 refine zz ?_);refine zo (ok_len_str rfl rfl) ?_;refine zz ?_;refine zzn ?_;refine zzc (fun h17 => ?_) fun h17 => ?_
   ·have k17 := of_decide_eq_true h17
    have hkl : k < l.length := by omega
    have hget : l[k]? = some l[k] := List.getElem?_eq_getElem hkl
    refine T_skip ?_;refine T_seq ?_;refine T_block ?_;refine T_seq ?_;refine zr ?_;(iterate 2 refine zz ?_);refine zo (ok_index_str rfl rfl rfl (by omega) (c := l[k]) hget) ?_
    refine Run.oneB (ok_cmp rfl rfl rfl rfl) rfl rfl rfl (fun h7_3 => ?_) (fun h7_3 => ?_)
    ·have k7_3 := of_decide_eq_true h7_3
     have hb := peD_bad (okD_bad hkl (by simp only [isD, Bool.and_eq_false_iff, decide_eq_false_iff_not]; omega))
     refine zz ?_;(iterate 4 refine zq ?_);refine zz ?_;refine zzn ?_;refine T_condT rfl rfl ?_;refine zr ?_;refine zo ((ok_assign rfl rfl).sub nat_nil) ?_;refine zz ?_;refine zzn ?_;refine T_ret ?_
     exact ⟨_, [], .many (.cons (.tmp rfl) (.cons (.tmp rfl) (.nil))), List.nil_sublist _, by rw [hb.1, hb.2], rfl⟩
    ·have k7_3 := of_decide_eq_false h7_3
     (iterate 3 refine zz ?_);refine zo (ok_index_str rfl rfl rfl (by omega) (c := l[k]) hget) ?_;(iterate 2 refine zz ?_);refine zzn ?_;refine zzc (fun h29 => ?_) fun h29 => ?_
     ·have k29 := of_decide_eq_true h29
      have hb := peD_bad (okD_bad hkl (by simp only [isD, Bool.and_eq_false_iff, decide_eq_false_iff_not]; omega))
      refine zr ?_;refine zo ((ok_assign rfl rfl).sub nat_nil) ?_;refine zz ?_;refine zzn ?_;refine T_ret ?_
      exact ⟨_, [], .many (.cons (.tmp rfl) (.cons (.tmp rfl) (.nil))), List.nil_sublist _, by rw [hb.1, hb.2], rfl⟩
     ·have k29 := of_decide_eq_false h29
      have hlt := Nat.lt_of_lt_of_le (valD_lt hall) (Nat.pow_le_pow_right (by decide) (show (l.take k).length ≤ 59 by rw [List.length_take]; omega))
      obtain ⟨v, hv⟩ : ∃ v, v = valD (l.take k) := ⟨_, rfl⟩
      have hvt := valD_take hkl
      have hdg := all_take hkl hall (by omega) (by omega)
      obtain ⟨c, hc⟩ : ∃ c, c = l[k].toNat := ⟨_, rfl⟩
      rw [← hv] at hlt hvt ⊢
      rw [← hc] at hvt
      have hc48 : 48 ≤ c ∧ c ≤ 57 := by omega
      have i1 : Bd v 7 := bd_dec (by omega)
      have i2 : Bd (v * 10) 7 := bd_dec (by omega)
      have i3 : Bd (c - 48) 1 := ⟨by omega⟩
      have i4 := isNat_lit (d := c - 48) (by omega)
      have i6 : Bd 10 1 := ⟨by decide⟩
      have i5 := isNat_lit (d := 10) (by decide)
      refine T_skip ?_;refine T_draw 13 (by kernel_rfl) ?_;refine zz ?_;refine zo (ok_buildSlice rfl rfl (by decide) rfl (by simp) rfl rfl) ?_;refine zo (ok_call rfl rfl ((rmul_spec (b := [10]) (n := 10) (by have := dig_length_le (k := 7) i1.h; unfold cap; simp; omega) ).args ⟨fun _ _ h => h, fun I v h => natLit (l := [10]) I v h, trivial⟩)) ?_;(iterate 2 refine zz ?_);refine zo (ok_index_str rfl rfl rfl (by omega) (c := l[k]) hget) ?_;refine zo (ok_ari (z := ((c - 48 : Nat) : Int)) rfl rfl rfl (congrArg some (by omega)) (by simp [IntKind.wrap, IntKind.bits, IntKind.signed]; omega)) ?_;refine zo (ok_conv (z := ((c - 48 : Nat) : Int)) rfl rfl (wrap_u32 (by omega) (by omega))) ?_;refine zo (ok_buildSlice rfl rfl (by decide) rfl (by simp) rfl rfl) ?_;refine zo (ok_call rfl rfl ((rtrim_spec (l := [c - 48]) (n := c - 48) (show 1 ≤ cap by decide)).args ⟨fun I v h => natLit (l := [c - 48]) I v h, trivial⟩)) ?_;refine zo (ok_buildSlice rfl rfl (by decide) rfl (by simp) rfl rfl) ?_;refine zo (ok_call rfl rfl (radd2_spec (by decide))) ?_;refine zz ?_;(iterate 2 refine zzn ?_);refine T_region ?_;refine zz ?_;refine za ((k + 1 : Nat) : Int) ?_;refine zz ?_;refine zzn ?_
      exact ⟨k + 1, ⟨by omega, hdg⟩, by omega, ent_g (subG_cons rfl (subG_as rfl (congrArg (fun x => natS (dig x)) hvt.symm) (subG_cons rfl trivial)))⟩
   ·have k17 := of_decide_eq_false h17
    obtain rfl : k = l.length := by omega
    rw [List.take_length] at hall ⊢
    have hb := peD_ok (okD_of hne (by omega) hall)
    refine T_exit ?_;refine zr ?_;(iterate 3 refine zz ?_);refine zzn ?_;refine T_ret ?_
    exact ⟨_, [], .many (.cons (.tmp rfl) (.cons (.tmp rfl) (.nil))), List.nil_sublist _, by rw [hb.1, hb.2], rfl⟩
theorem rparseInt_spec {l : List UInt8} (hl : l.length ≤ 100000) : PSpec Tryz.prog G 167 [strS l] (tupS [aggS [boolS (Lib.hasPrefix l [45] && decide (0 < pvD (Lib.trimPrefix l [45]))), natS (dig (pvD (Lib.trimPrefix l [45])))], intS .i64 (peD (Lib.trimPrefix l [45]))]) := by
 obtain ⟨hp, hhp⟩ : ∃ hp, hp = Lib.hasPrefix l [45] := ⟨_, rfl⟩
 obtain ⟨tl, htl⟩ : ∃ tl, tl = Lib.trimPrefix l [45] := ⟨_, rfl⟩
 have hpc := pre_cases l
 rw [← hhp, ← htl] at hpc ⊢
 refine zs Tryz.func167 ?_;refine zr ?_;refine zzv fun b2 => ?_;refine zz ?_;refine zx ?_;refine zz ?_;refine zo (ok_len_str rfl rfl) ?_
 refine Run.oneB (ok_cmp rfl rfl rfl rfl) rfl rfl rfl (fun h1_2 => ?_) (fun h1_2 => ?_)
 ·have k1_2 := of_decide_eq_true h1_2
  (iterate 2 refine zz ?_);refine zo (ok_index_str rfl rfl rfl (by omega) (c := l.getD 0 0) (getD_get (by omega))) ?_;refine zz ?_;refine zo ((ok_pick rfl rfl rfl).sub (bool_eq (c := hp) (by first | exact hp_pos' hhp (by omega) | exact hp_neg' hhp (by omega)))) ?_;refine zz ?_;refine zzn ?_;refine T_seqQ (K := fun S1 => Ent S1 (⟨35, [(4, boolS hp), (2, eqS (.pointer (some ⟨b2, 0, none⟩))), (0, strS tl)], [⟨some b2, 26, [eqS (.bool false), eqS (.slice none 0 0)], 0⟩], [], (0, false)⟩)) ?_ ?_
  ·refine zr ?_;refine zz ?_;refine zzn ?_;refine zzc (fun h15 => ?_) fun h15 => ?_
   ·have hdrop : l.drop 1 = tl := by rcases hpc with ⟨r, h1, h2, h3⟩ | ⟨h1, h2, h3⟩; rw [h1, h3]; rfl; rw [h15] at h2; cases h2
    have hll : 1 ≤ l.length := by rcases hpc with ⟨r, h1, h2, h3⟩ | ⟨h1, h2, h3⟩; rw [h1]; simp; rw [h15] at h2; cases h2
    refine T_region ?_;refine zz ?_;refine zo ((ok_slice_str (lo := 1) (hi := l.length) rfl rfl (.inr ⟨_, _, rfl, rfl⟩) (.inl ⟨rfl, rfl⟩) (by omega) (Nat.le_refl _)).sub (str_eq (m := tl) (by rw [List.take_length]; exact hdrop))) ?_;refine zz ?_;refine zzn ?_
    exact ent_h zk rfl
   ·obtain rfl : l = tl := by rcases hpc with ⟨r, h1, h2, h3⟩ | ⟨h1, h2, h3⟩; rw [h15] at h2; cases h2; exact h3.symm
    refine T_skip ?_
    exact ent_h zk rfl
  ·intro S1 hS1
   refine T_pre hS1 ?_;refine zr ?_;refine zz ?_;refine zf rparse_spec ?_;(iterate 5 refine zz ?_);refine zzn ?_;refine T_seq ?_;refine zr ?_;(iterate 2 refine zz ?_);refine zzn ?_;refine zzc (fun h24 => ?_) fun h24 => ?_
   ·have k24 := bne_iff_ne.1 h24
    have hb := peD_bad (peD_ne k24)
    refine zr ?_;refine zo ((ok_build rfl rfl rfl).sub nilInt) ?_;refine zz ?_;refine zw ?_;refine zz ?_;refine zzn ?_;refine T_ret ?_
    exact ⟨_, [], .many (.cons (.agg 0 inferInstance rfl rfl rfl rfl) (.cons (.tmp rfl) (.nil))), List.nil_sublist _, by first | (rw [hb.2, hb.1, show (hp && decide (0 < 0)) = false by simp]; rfl) | (rw [h7_0, k24]; rfl), rfl⟩
   ·have k24 := bne_eq_false_iff_eq.1 h24
    refine T_skip ?_;refine zr ?_
    refine Run.oneB (ok_move rfl rfl) rfl rfl rfl (fun h7_0 => ?_) (fun h7_0 => ?_)
    ·refine zz ?_;(iterate 2 refine zz ?_);refine zo ((ok_cmp rfl rfl rfl rfl).sub (bool_eq (c := decide (0 < pvD tl)) (decide_eq_decide.2 (by have := dig_len_zero (n := pvD tl); omega)))) ?_;(iterate 3 refine zz ?_);refine zw ?_;refine zz ?_;refine zzn ?_;refine T_ret ?_
     exact ⟨_, [], .many (.cons (.agg 0 inferInstance rfl rfl rfl rfl) (.cons (.tmp rfl) (.nil))), List.nil_sublist _, by first | (rw [hb.2, hb.1, show (hp && decide (0 < 0)) = false by simp]; rfl) | (rw [h7_0, k24]; rfl), rfl⟩
    ·refine zz ?_;(iterate 3 refine zq ?_);(iterate 3 refine zz ?_);refine zw ?_;refine zz ?_;refine zzn ?_;refine T_ret ?_
     exact ⟨_, [], .many (.cons (.agg 0 inferInstance rfl rfl rfl rfl) (.cons (.tmp rfl) (.nil))), List.nil_sublist _, by first | (rw [hb.2, hb.1, show (hp && decide (0 < 0)) = false by simp]; rfl) | (rw [h7_0, k24]; rfl), rfl⟩
 ·have k1_2 := of_decide_eq_false h1_2
  refine zz ?_;(iterate 3 refine zq ?_);refine zo ((ok_pick rfl rfl rfl).sub (bool_eq (c := hp) (by first | exact hp_pos' hhp (by omega) | exact hp_neg' hhp (by omega)))) ?_;refine zz ?_;refine zzn ?_;refine T_seqQ (K := fun S1 => Ent S1 (⟨35, [(4, boolS hp), (2, eqS (.pointer (some ⟨b2, 0, none⟩))), (0, strS tl)], [⟨some b2, 26, [eqS (.bool false), eqS (.slice none 0 0)], 0⟩], [], (0, false)⟩)) ?_ ?_
  ·refine zr ?_;refine zz ?_;refine zzn ?_;refine zzc (fun h15 => ?_) fun h15 => ?_
   ·have hdrop : l.drop 1 = tl := by rcases hpc with ⟨r, h1, h2, h3⟩ | ⟨h1, h2, h3⟩; rw [h1, h3]; rfl; rw [h15] at h2; cases h2
    have hll : 1 ≤ l.length := by rcases hpc with ⟨r, h1, h2, h3⟩ | ⟨h1, h2, h3⟩; rw [h1]; simp; rw [h15] at h2; cases h2
    refine T_region ?_;refine zz ?_;refine zo ((ok_slice_str (lo := 1) (hi := l.length) rfl rfl (.inr ⟨_, _, rfl, rfl⟩) (.inl ⟨rfl, rfl⟩) (by omega) (Nat.le_refl _)).sub (str_eq (m := tl) (by rw [List.take_length]; exact hdrop))) ?_;refine zz ?_;refine zzn ?_
    exact ent_h zk rfl
   ·obtain rfl : l = tl := by rcases hpc with ⟨r, h1, h2, h3⟩ | ⟨h1, h2, h3⟩; rw [h15] at h2; cases h2; exact h3.symm
    refine T_skip ?_
    exact ent_h zk rfl
  ·intro S1 hS1
   refine T_pre hS1 ?_;refine zr ?_;refine zz ?_;refine zf rparse_spec ?_;(iterate 5 refine zz ?_);refine zzn ?_;refine T_seq ?_;refine zr ?_;(iterate 2 refine zz ?_);refine zzn ?_;refine zzc (fun h24 => ?_) fun h24 => ?_
   ·have k24 := bne_iff_ne.1 h24
    have hb := peD_bad (peD_ne k24)
    refine zr ?_;refine zo ((ok_build rfl rfl rfl).sub nilInt) ?_;refine zz ?_;refine zw ?_;refine zz ?_;refine zzn ?_;refine T_ret ?_
    exact ⟨_, [], .many (.cons (.agg 0 inferInstance rfl rfl rfl rfl) (.cons (.tmp rfl) (.nil))), List.nil_sublist _, by first | (rw [hb.2, hb.1, show (hp && decide (0 < 0)) = false by simp]; rfl) | (rw [h7_0, k24]; rfl), rfl⟩
   ·have k24 := bne_eq_false_iff_eq.1 h24
    refine T_skip ?_;refine zr ?_
    refine Run.oneB (ok_move rfl rfl) rfl rfl rfl (fun h7_0 => ?_) (fun h7_0 => ?_)
    ·refine zz ?_;(iterate 2 refine zz ?_);refine zo ((ok_cmp rfl rfl rfl rfl).sub (bool_eq (c := decide (0 < pvD tl)) (decide_eq_decide.2 (by have := dig_len_zero (n := pvD tl); omega)))) ?_;(iterate 3 refine zz ?_);refine zw ?_;refine zz ?_;refine zzn ?_;refine T_ret ?_
     exact ⟨_, [], .many (.cons (.agg 0 inferInstance rfl rfl rfl rfl) (.cons (.tmp rfl) (.nil))), List.nil_sublist _, by first | (rw [hb.2, hb.1, show (hp && decide (0 < 0)) = false by simp]; rfl) | (rw [h7_0, k24]; rfl), rfl⟩
    ·refine zz ?_;(iterate 3 refine zq ?_);(iterate 3 refine zz ?_);refine zw ?_;refine zz ?_;refine zzn ?_;refine T_ret ?_
     exact ⟨_, [], .many (.cons (.agg 0 inferInstance rfl rfl rfl rfl) (.cons (.tmp rfl) (.nil))), List.nil_sublist _, by first | (rw [hb.2, hb.1, show (hp && decide (0 < 0)) = false by simp]; rfl) | (rw [h7_0, k24]; rfl), rfl⟩
end Go.Proofs
