/- digits: texts of numbers, and numbers of texts. -/
import Derived.Test.YtofplgefmjojjaaGreatDoorSsc
import Derived.Test.YtofplgefmjojjaaGreatDoorSmt
namespace Go.Proofs
open Go Go.Sv Num
variable {G : Imm}
theorem wrap_i32 {z : Int} (h1 : -2147483648 ≤ z) (h2 : z ≤ 2147483647) : IntKind.i32.wrap z = z := by
 simp [IntKind.wrap, IntKind.bits, IntKind.signed]; omega
theorem natLit {l : List Nat} (I : Imm) (v : Value) (h : (slS 1 id (l.map u32S)).den I v) : (natS l).den I v := by
 obtain ⟨a, cap, hv, h1, h2, h3⟩ := h
 refine ⟨a, cap, by rw [hv, List.length_map], by rwa [List.length_map] at h1, by rwa [List.length_map] at h2, ?_⟩
 rcases h3 with h3 | ⟨b, o, ha, h4⟩
 ·exact .inl (List.map_eq_nil_iff.1 h3)
 ·exact .inr ⟨b, o, ha, fun i x hx => h4 i (u32S x) (by rw [List.getElem?_map, hx]; rfl)⟩
theorem isNat_lit {d : Nat} (h : d < 4294967296) : IsNat [d] d := ⟨lim_cons h lim_nil, by simp [val]⟩
theorem nat_nil (I : Imm) (v : Value) (h : (eqS (.slice none 0 0)).den I v) : (natS (dig 0)).den I v := by rw [show v = .slice none 0 0 from h, dig_zero]; exact nil_sl
theorem nilInt (I : Imm) (v : Value) (h : (aggS [eqS (.bool false), eqS (.slice none 0 0)]).den I v) : (aggS [boolS false, natS (dig 0)]).den I v := by
 obtain ⟨xs, hv, hd, h1⟩ := h
 refine ⟨xs, hv, ?_, h1⟩
 obtain ⟨x, y, rfl, hx, hy⟩ := dens_two hd
 exact dens_cons hx (dens_cons (nat_nil I y hy) dens_nil)
theorem okD_of {l : List UInt8} (h1 : ¬ l = []) (h2 : ¬ 60 < l.length) (h3 : l.all isD = true) : okD l = true := by
 simp only [okD, Bool.and_eq_true, Bool.not_eq_true', decide_eq_true_eq, h3, and_true]
 exact ⟨by simpa using h1, by omega⟩
theorem okD_bad {l : List UInt8} {k : Nat} (hk : k < l.length) (h : isD l[k] = false) : okD l = false := by
 have h1 : l.all isD = false := List.all_eq_false.2 ⟨l[k], List.getElem_mem _, by simp [h]⟩
 unfold okD; rw [h1]; simp
theorem isD_bad {c : UInt8} {z w : Nat} (hz : (z < 128 ∧ c.toNat = z ∧ w = 1) ∨ (128 ≤ z ∧ 128 ≤ c.toNat)) (h : z < 48 ∨ 57 < z) : isD c = false := by
 simp only [isD, Bool.and_eq_false_iff, decide_eq_false_iff_not]
 omega
theorem all_take {l : List UInt8} {k : Nat} (hk : k < l.length) (h : (l.take k).all isD = true) (h1 : 48 ≤ l[k].toNat) (h2 : l[k].toNat ≤ 57) : (l.take (k + 1)).all isD = true := by
 rw [List.take_add_one, List.getElem?_eq_getElem hk, List.all_append, h]
 simp [isD, h1, h2]
theorem peD_ne {l : List UInt8} (h : peD l ≠ 0) : okD l = false := by
 cases h1 : okD l with
 | false => rfl
 | true => exact absurd (by simp [peD, h1]) h
theorem peD_ok {l : List UInt8} (h : okD l = true) : peD l = 0 ∧ pvD l = valD l := by simp [peD, pvD, h]
theorem peD_bad {l : List UInt8} (h : okD l = false) : peD l = 60 ∧ pvD l = 0 := by simp [peD, pvD, h]
theorem pvD_lt (l : List UInt8) : pvD l < 10 ^ 60 := by
  cases h : okD l with
  | false => rw [(peD_bad h).2]; decide
  | true =>
    rw [(peD_ok h).2]
    simp only [okD, Bool.and_eq_true, decide_eq_true_eq] at h
    exact Nat.lt_of_lt_of_le (valD_lt h.2.2) (Nat.pow_le_pow_right (by decide) h.2.1)
theorem bd_dec {v : Nat} (h : v < 10 ^ 60) : Bd v 7 := ⟨Nat.lt_of_lt_of_le h (by decide)⟩
theorem pby_spec {a : List Nat} {m d k : Nat} [hm : IsNat a m] [hk : Sz a k] (hd : d < 4294967296) (hs : k + 3 ≤ cap := by decide) : PSpec Tryz.prog G 242 [natS a, intS .u32 d] (natS (dig (m * d))) := by
 have hi := isNat_lit hd
 have hka := hk.h
 refine zs Tryz.func242 ?_;refine zr ?_;refine zz ?_;refine zx ?_;(iterate 2 refine zz ?_);refine zo (ok_buildSlice rfl rfl (by decide) rfl (by simp) rfl rfl) ?_;refine zo (ok_call rfl rfl ((plain_spec (b := [d]) (n := d) (by simp; omega)).args ⟨fun _ _ h => h, fun I v h => natLit (l := [d]) I v h, trivial⟩)) ?_;refine zz ?_;refine zzn ?_;refine T_ret ?_
 exact ⟨_, [], .one (.tmp rfl), List.nil_sublist _, rfl, rfl⟩
theorem parse_spec {l : List UInt8} : PSpec Tryz.prog G 226 [strS l] (tupS [natS (dig (pvD l)), intS .i64 (peD l)]) := by
 refine zs Tryz.func226 ?_;refine zr ?_;refine zo ((ok_assign rfl rfl).sub nat_nil) ?_;refine zz ?_;refine zzn ?_;refine T_scope ?_;refine T_seq ?_;refine zr ?_;refine zz ?_
 refine Run.oneB (ok_cmp_str rfl rfl rfl rfl) rfl rfl rfl (fun h1_1 => ?_) (fun h1_1 => ?_)
 ·have hb := peD_bad (l := l) (by rw [beq_iff_eq.1 h1_1]; rfl)
  refine zz ?_;(iterate 3 refine zq ?_);refine zz ?_;refine zzn ?_;refine T_condT rfl rfl ?_;refine zr ?_;refine zo ((ok_assign rfl rfl).sub nat_nil) ?_;refine zz ?_;refine zzn ?_;refine T_ret ?_
  exact ⟨_, [], .many (.cons (.tmp rfl) (.cons (.tmp rfl) (.nil))), List.nil_sublist _, by rw [hb.1, hb.2], rfl⟩
 ·have hne : ¬ l = [] := beq_eq_false_iff_ne.1 h1_1
  (iterate 2 refine zz ?_);refine zo (ok_len_str rfl rfl) ?_;(iterate 2 refine zz ?_);refine zzn ?_;refine zzc (fun h12 => ?_) fun h12 => ?_
  ·have k12 := of_decide_eq_true h12
   have hb := peD_bad (l := l) (by unfold okD; rw [show decide (l.length ≤ 60) = false from decide_eq_false (by omega)]; simp)
   refine zr ?_;refine zo ((ok_assign rfl rfl).sub nat_nil) ?_;refine zz ?_;refine zzn ?_;refine T_ret ?_
   exact ⟨_, [], .many (.cons (.tmp rfl) (.cons (.tmp rfl) (.nil))), List.nil_sublist _, by rw [hb.1, hb.2], rfl⟩
  ·have k12 := of_decide_eq_false h12
   refine T_skip ?_;refine T_seq ?_;refine T_label ?_;refine T_seq ?_;refine T_strRange rfl rfl rfl rfl rfl rfl rfl rfl rfl fun r0 => ?_;refine T_block ?_;refine T_loop (γ := Nat) (fun k => ⟨_, [(14, eqS (.pointer (some ⟨r0, 0, none⟩))), (3, intS .i64 0), (2, natS (dig (valD (l.take k)))), (0, strS l)], [], [], (k, false)⟩) (fun k => k ≤ l.length ∧ (l.take k).all isD = true) (fun k => l.length - k) 0 ⟨Nat.zero_le _, rfl⟩ (ent_g zk) ?_
   rintro k ⟨hk, hall⟩
   refine zr ?_
   refine Run.nextZ rfl rfl rfl rfl rfl rfl (fun hk15 z w hzm hz => ?_) (fun hk15 => ?_)
   ·refine zz ?_;refine zzn ?_;refine T_seq ?_;refine T_condT rfl rfl ?_;refine T_skip ?_;refine T_block ?_;refine zr ?_;(iterate 2 refine zz ?_);refine zzn ?_;refine T_seq ?_;refine zr ?_;refine zz ?_
    refine Run.oneB (ok_cmp rfl rfl rfl rfl) rfl rfl rfl (fun h6_1 => ?_) (fun h6_1 => ?_)
    ·have k6_1 := of_decide_eq_true h6_1
     have hb := peD_bad (okD_bad hk15 (isD_bad hz (.inl (by omega))))
     refine zz ?_;(iterate 2 refine zq ?_);refine zz ?_;refine zzn ?_;refine T_condT rfl rfl ?_;refine zr ?_;refine zz ?_;refine zzn ?_;refine T_exit ?_;refine T_seq ?_;refine zr ?_;(iterate 2 refine zz ?_);refine zzn ?_;refine T_condT rfl rfl ?_;refine zr ?_;refine zz ?_;refine zo ((ok_assign rfl rfl).sub nat_nil) ?_;refine zz ?_;refine zzn ?_;refine T_ret ?_
     exact ⟨_, [], .many (.cons (.tmp rfl) (.cons (.tmp rfl) (.nil))), List.nil_sublist _, by rw [hb.1, hb.2], rfl⟩
    ·have k6_1 := of_decide_eq_false h6_1
     (iterate 4 refine zz ?_);refine zzn ?_;refine zzc (fun h23 => ?_) fun h23 => ?_
     ·have k23 := of_decide_eq_true h23
      have hb := peD_bad (okD_bad hk15 (isD_bad hz (.inr (by omega))))
      refine zr ?_;refine zz ?_;refine zzn ?_;refine T_exit ?_;refine T_seq ?_;refine zr ?_;(iterate 2 refine zz ?_);refine zzn ?_;refine T_condT rfl rfl ?_;refine zr ?_;refine zz ?_;refine zo ((ok_assign rfl rfl).sub nat_nil) ?_;refine zz ?_;refine zzn ?_;refine T_ret ?_
      exact ⟨_, [], .many (.cons (.tmp rfl) (.cons (.tmp rfl) (.nil))), List.nil_sublist _, by rw [hb.1, hb.2], rfl⟩
     ·have k23 := of_decide_eq_false h23
      obtain ⟨_, hzc, rfl⟩ : z < 128 ∧ l[k].toNat = z ∧ w = 1 := by rcases hz with h | h; exact h; omega
      have hlt := Nat.lt_of_lt_of_le (valD_lt hall) (Nat.pow_le_pow_right (by decide) (show (l.take k).length ≤ 59 by rw [List.length_take]; omega))
      obtain ⟨v, hv⟩ : ∃ v, v = valD (l.take k) := ⟨_, rfl⟩
      have hvt := valD_take hk15
      rw [← hv] at hlt hvt ⊢
      have i1 : Bd v 7 := bd_dec (by omega)
      have i2 : Bd (v * 10) 7 := bd_dec (by omega)
      have i3 : Bd (z - 48) 1 := ⟨by omega⟩
      refine T_skip ?_;refine T_region ?_;refine zz ?_;refine zo (ok_call rfl rfl (pby_spec (d := 10) (by decide))) ?_;refine zz ?_;refine zo (ok_ari (z := ((z - 48 : Nat) : Int)) rfl rfl rfl (congrArg some (by omega)) (wrap_i32 (by omega) (by omega))) ?_;refine zz ?_;refine zo (ok_call rfl rfl (of_spec (by omega))) ?_;refine zo (ok_buildSlice rfl rfl (by decide) rfl (by simp) rfl rfl) ?_;refine zo (ok_call rfl rfl (add2_spec (by decide))) ?_;refine zz ?_;refine zzn ?_
      exact ⟨k + 1, ⟨by omega, all_take hk15 hall (by omega) (by omega)⟩, by omega, rfl, subG_cons rfl (subG_cons rfl (subG_as rfl (congrArg (fun x => natS (dig x)) (by rw [hvt, hzc])) (subG_cons rfl trivial))), subH_refl _, rfl, rfl⟩
   ·obtain rfl : k = l.length := by omega
    rw [List.take_length] at hall ⊢
    have hb := peD_ok (okD_of hne (by omega) hall)
    refine zz ?_;refine zzn ?_;refine T_seq ?_;refine T_condF rfl rfl ?_;refine T_exit ?_;refine T_seq ?_;refine zr ?_;(iterate 2 refine zz ?_);refine zzn ?_;refine T_condF rfl rfl ?_;refine T_skip ?_;refine zr ?_;(iterate 3 refine zz ?_);refine zzn ?_;refine T_ret ?_
    exact ⟨_, [], .many (.cons (.tmp rfl) (.cons (.tmp rfl) (.nil))), List.nil_sublist _, by rw [hb.1, hb.2], rfl⟩
theorem parseInt_spec {l : List UInt8} : PSpec Tryz.prog G 224 [strS l] (tupS [aggS [boolS (Lib.hasPrefix l [45] && decide (0 < pvD (Lib.trimPrefix l [45]))), natS (dig (pvD (Lib.trimPrefix l [45])))], intS .i64 (peD (Lib.trimPrefix l [45]))]) := by
 refine zs Tryz.func224 ?_;refine zr ?_;refine zzv fun b2 => ?_;refine zz ?_;refine zx ?_;refine zz ?_;refine zf cutPrefix_spec ?_;(iterate 5 refine zz ?_);refine zzn ?_;refine T_seq ?_;refine zr ?_;refine zz ?_;refine zf parse_spec ?_;(iterate 4 refine zz ?_);refine zw ?_;refine zz ?_;refine zx ?_;(iterate 2 refine zz ?_);refine zzn ?_;refine zzc (fun h18 => ?_) fun h18 => ?_
 ·have k18 := bne_iff_ne.1 h18
  have hb := peD_bad (peD_ne k18)
  refine zr ?_;refine zo ((ok_build rfl rfl rfl).sub nilInt) ?_;refine zz ?_;refine zw ?_;refine zz ?_;refine zzn ?_;refine T_ret ?_
  exact ⟨_, [], .many (.cons (.agg 0 inferInstance rfl rfl rfl rfl) (.cons (.tmp rfl) (.nil))), List.nil_sublist _, by rw [hb.2, hb.1, show (Lib.hasPrefix l [45] && decide (0 < 0)) = false by simp]; rfl, rfl⟩
 ·have k18 := bne_eq_false_iff_eq.1 h18
  refine T_skip ?_;refine zr ?_
  refine Run.oneB (ok_move rfl rfl) rfl rfl rfl (fun h5_0 => ?_) (fun h5_0 => ?_)
  ·refine zz ?_;(iterate 3 refine zz ?_)
   refine zo ((ok_cmp rfl rfl rfl rfl).sub (bool_eq (c := decide (0 < pvD (Lib.trimPrefix l [45]))) (decide_eq_decide.2 (by have := dig_len_zero (n := pvD (Lib.trimPrefix l [45])); omega)))) ?_
   (iterate 2 refine zz ?_);refine zw ?_;refine zx ?_;refine zz ?_;refine zw ?_;refine zz ?_;refine zzn ?_;refine T_ret ?_
   exact ⟨_, [], .many (.cons (.agg 0 inferInstance rfl rfl rfl rfl) (.cons (.tmp rfl) (.nil))), List.nil_sublist _, by rw [h5_0, k18]; rfl, rfl⟩
  ·refine zz ?_;(iterate 4 refine zq ?_);(iterate 2 refine zz ?_);refine zw ?_;refine zx ?_;refine zz ?_;refine zw ?_;refine zz ?_;refine zzn ?_;refine T_ret ?_
   exact ⟨_, [], .many (.cons (.agg 0 inferInstance rfl rfl rfl rfl) (.cons (.tmp rfl) (.nil))), List.nil_sublist _, by rw [h5_0, k18]; rfl, rfl⟩
end Go.Proofs
