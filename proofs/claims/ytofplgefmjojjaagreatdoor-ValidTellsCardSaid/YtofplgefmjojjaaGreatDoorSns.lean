/- Integers: sint. -/
import Derived.Test.YtofplgefmjojjaaGreatDoorSnp
namespace Go.Proofs
open Go Go.Sv Num
variable {G : Imm}
theorem frz_spec {P : Program} {G : Imm} {f : FuncId} {args : List SV} {e : Nat} {cs : List SV} (h : CallSpec P G f args [] (fun s H' => ∃ b, s = eqS (.pointer (some ⟨b, 0, none⟩)) ∧ H' = [⟨some b, e, cs, 0⟩])) : PSpec P G f args (ptrS cs) := by
 refine ⟨h.enters, fun I W vs h1 h2 h3 => (h.main I W vs h1 h2 h3).mono fun ed W' ⟨v, I', s, H', he, ⟨b, hs, hH⟩, hv, hm, hh, hf⟩ => ?_⟩
 subst hs; subst hH
 have hb := (hh.mem ⟨some b, e, cs, 0⟩ (by simp)).some rfl
 obtain ⟨g1, c, g2, g3, g4, g5⟩ := hb
 simp only [Nat.add_zero] at g2 g3 g4 g5
 have hct : c.toList.take cs.length = c.toList := List.take_of_length_le (by simp [g3])
 rw [hct] at g4 g5
 have hle := Imm.with_le (c := c) g1
 refine ⟨v, I'.with b c, _, [], he, ⟨rfl, rfl⟩, ⟨b, 0, hv, c, by simp [Imm.with], fun i s hi => ?_⟩, ⟨Imm.le_trans hm.glob hle, fun k d hk => ?_⟩, ⟨by simp [bs], fun p hp => by simp at hp⟩, ?_⟩
 ·obtain ⟨x, hx, hd⟩ := g5.get hi
  refine ⟨x, by rw [Nat.zero_add]; simpa using hx, s.mono _ _ _ hle hd, g4 x (List.mem_of_getElem? hx)⟩
 ·unfold Imm.with at hk
  split at hk
  ·rename_i e'; subst e'; cases hk; exact ⟨e, (0, 0), g2⟩
  ·exact hm.mem _ _ hk
 ·refine ⟨hf.os, hf.tape, hf.output, Imm.le_trans hf.imm hle, hf.size, fun k hk hn => hf.old k hk hn, fun k hk hk' => ?_, fun k hk => by simp [bs] at hk⟩
  unfold Imm.with at hk'
  split at hk'
  ·rename_i e'; subst e'; exact hf.own _ (by simp [bs])
  ·exact hf.new k hk hk'
abbrev canI (z : Int) : List SV := [boolS (decide (z < 0)), natS (dig z.natAbs)]
class Bz (z : Int) (k : outParam Nat) : Prop where
 h : z.natAbs < 4294967296 ^ k
class IsZ (b : Bool) (l : List Nat) (z : outParam Int) (k : outParam Nat) : Prop where
 lim : Lim l
 val : sgn b (Num.val l) = z
 len : l.length ≤ k
theorem Bz.len {z : Int} {k : Nat} (h : Bz z k) : (dig z.natAbs).length ≤ k := dig_length_le h.h
instance isZ_can {z : Int} {k : Nat} [h : Bz z k] : IsZ (decide (z < 0)) (dig z.natAbs) z k := ⟨lim_dig _, by rw [val_dig, sgn_self], h.len⟩
theorem IsZ.nat {b : Bool} {l : List Nat} {z : Int} {k : Nat} (h : IsZ b l z k) : IsNat l z.natAbs := ⟨h.lim, by rw [← h.val, sgn_natAbs]⟩
theorem IsZ.bz {b : Bool} {l : List Nat} {z : Int} {k : Nat} (h : IsZ b l z k) : Bz z k := ⟨by
 rw [← h.val, sgn_natAbs]; exact Nat.lt_of_lt_of_le (val_lt h.lim) (Nat.pow_le_pow_right (by decide) h.len)⟩
theorem IsZ.can {b : Bool} {l : List Nat} {z : Int} {k : Nat} (h : IsZ b l z k) : canI z = [boolS (b && decide (z.natAbs ≠ 0)), natS (dig z.natAbs)] := by
 have h1 := sgn_neg b (Num.val l)
 rw [h.val] at h1
 have h2 : z.natAbs = Num.val l := by rw [← h.val, sgn_natAbs]
 show [boolS (decide (z < 0)), _] = _
 rw [h1, h2]
instance isZ_not {b : Bool} {l : List Nat} {z : Int} {k : Nat} [h : IsZ b l z k] : IsZ (!b) l (-z) k := ⟨h.lim, by rw [sgn_not, h.val], h.len⟩
theorem isZ_of {b : Bool} {l : List Nat} (h : Lim l) : IsZ b l (sgn b (Num.val l)) l.length := ⟨h, rfl, Nat.le_refl _⟩
instance bz_neg {z : Int} {k : Nat} [h : Bz z k] : Bz (-z) k := ⟨by rw [Int.natAbs_neg]; exact h.h⟩
instance bz_add {x y : Int} {k l : Nat} [h : Bz x k] [h' : Bz y l] : Bz (x + y) (k + l + 1) := ⟨Nat.lt_of_le_of_lt (Int.natAbs_add_le x y) (bd_sum h.h h'.h)⟩
instance bz_sub {x y : Int} {k l : Nat} [h : Bz x k] [h' : Bz y l] : Bz (x - y) (k + l + 1) := ⟨Nat.lt_of_le_of_lt (Int.natAbs_sub_le x y) (bd_sum h.h h'.h)⟩
instance bz_mul {x y : Int} {k l : Nat} [h : Bz x k] [h' : Bz y l] : Bz (x * y) (k + l) := ⟨by
 rw [Int.natAbs_mul, Nat.pow_add]; exact Nat.mul_lt_mul'' h.h h'.h⟩
instance bz_zero : Bz 0 0 := ⟨by decide⟩
instance bz_one : Bz 1 1 := ⟨by decide⟩
instance bz_nat {n : Nat} {k : Nat} [h : Bd n k] : Bz (n : Int) k := ⟨h.h⟩
theorem bz_le {z : Int} {k l : Nat} (h : Bz z k) (hl : k ≤ l) : Bz z l := ⟨Nat.lt_of_lt_of_le h.h (Nat.pow_le_pow_right (by decide) hl)⟩
instance isZ_whole {l : List Nat} {n k : Nat} [h : IsNat l n] [hk : Sz l k] : IsZ false l (n : Int) k := ⟨h.lim, by rw [h.val]; rfl, hk.h⟩
abbrev zc (p : Bool × List Nat) : List SV := [boolS p.1, natS p.2]
def zv (p : Bool × List Nat) : Int := sgn p.1 (Num.val p.2)
theorem foldl_take {α β : Type} (f : β → α → β) (a : β) {l : List α} {i : Nat} {x : α} (h : l[i]? = some x) : (l.take (i + 1)).foldl f a = f ((l.take i).foldl f a) x := by
 rw [List.take_add_one, h]; simp
def szs (xs : List (Bool × List Nat)) (i : Nat) : Nat := ((xs.take i).map fun p => p.2.length + 1).sum
theorem szs_succ {xs : List (Bool × List Nat)} {i : Nat} {p : Bool × List Nat} (h : xs[i]? = some p) : szs xs (i + 1) = szs xs i + (p.2.length + 1) := by
 unfold szs; exact sum_take (fun p : Bool × List Nat => p.2.length + 1) h
theorem szs_le (xs : List (Bool × List Nat)) (i : Nat) : szs xs i ≤ szs xs xs.length := by
 have := sum_take_le (fun p : Bool × List Nat => p.2.length + 1) xs i
 unfold szs; rw [List.take_length]; exact this
def allX (xs : List (Bool × List Nat)) : List (List SV) := xs.map fun p => [ptrS (canI (zv p))]
theorem allX_length {xs : List (Bool × List Nat)} : (allX xs).length = xs.length := by simp [allX]
theorem allX_inv {xs : List (Bool × List Nat)} {i : Nat} {ss : List SV} (h : (allX xs)[i]? = some ss) : ∃ p, xs[i]? = some p ∧ ss = [ptrS (canI (zv p))] := by
 simp only [allX, List.getElem?_map, Option.map_eq_some_iff] at h
 obtain ⟨p, h1, h2⟩ := h; exact ⟨p, h1, h2.symm⟩
theorem allX_ss {xs : List (Bool × List Nat)} {ss : List SV} (h : ss ∈ allX xs) : ss.length = 1 := by
 obtain ⟨i, _, rfl⟩ := List.mem_map.1 h; rfl
theorem sl_pair {α : Type} {st : Nat} {f : α → List SV} (l : List α) {I : Imm} {v : Value} (h : (slS st id (l.map f)).den I v) : (slS st f l).den I v := by
 obtain ⟨a, cap, hv, h1, h2, h3⟩ := h
 simp only [List.length_map] at hv h1 h2
 refine ⟨a, cap, hv, h1, h2, ?_⟩
 rcases h3 with h3 | ⟨b, o, ha, h4⟩
 ·exact .inl (List.map_eq_nil_iff.1 h3)
 ·exact .inr ⟨b, o, ha, fun i x hx => h4 i (f x) (by rw [List.getElem?_map, hx]; rfl)⟩
theorem nilI : [boolS false, natS []] = canI 0 := by
 show _ = [boolS (decide ((0 : Int) < 0)), natS (dig (0 : Int).natAbs)]
 rw [show (0 : Int).natAbs = 0 from rfl, dig_zero]; rfl
theorem agg_sub {cs ds : List SV} (h : subL cs ds) (I : Imm) (v : Value) (hv : (aggS cs).den I v) : (aggS ds).den I v := by
 obtain ⟨xs, hv, hd, h1⟩ := hv; exact ⟨xs, hv, h.dens hd, h1⟩
theorem nilI_den (I : Imm) (v : Value) (h : (aggS [eqS (.bool false), eqS (.slice none 0 0)]).den I v) : (aggS (canI 0)).den I v := by
 rw [← nilI]; exact agg_sub (cs := [eqS (.bool false), eqS (.slice none 0 0)]) (ds := [boolS false, natS []]) ⟨fun _ _ h => h, nil_nat rfl, trivial⟩ I v h
theorem znorm_spec {b : Bool} {l : List Nat} {z : Int} {k bn : Nat} [h : IsZ b l z k] (hs : k ≤ cap := by decide) : CallSpec Tryz.prog G 196 [eqS (.pointer (some ⟨bn, 0, none⟩))] [⟨some bn, 201, [boolS b, natS l], 0⟩] (fun s H' => s = eqS (.pointer (some ⟨bn, 0, none⟩)) ∧ H' = [⟨some bn, 201, canI z, 0⟩]) := by
 have hn := h.nat
 have hlen := h.len
 have hcan := h.can
 refine zs Tryz.func196 ?_;refine zr ?_;refine zz ?_;refine zx ?_;(iterate 6 refine zz ?_);refine zo (ok_call rfl rfl (trim_spec (by omega))) ?_;(iterate 3 refine zz ?_);refine zw ?_;refine zx ?_;(iterate 5 refine zz ?_)
 refine Run.oneB (ok_load_own 0 rfl rfl rfl rfl) rfl rfl rfl (fun h2_5 => ?_) (fun h2_5 => ?_)
 ·refine zz ?_;(iterate 11 refine zz ?_);refine zw ?_;refine zx ?_;(iterate 2 refine zz ?_);refine zzn ?_;refine T_ret ?_
  exact ⟨_, [_], .one (.tmp rfl), List.Sublist.refl _, rfl, by rw [hcan, h2_5, Bool.true_and]; exact congrArg (fun x : Bool => [(⟨some bn, 201, [boolS x, natS (dig z.natAbs)], 0⟩ : HE)]) (decide_eq_decide.2 (by have := dig_len_zero (n := z.natAbs); omega))⟩
 ·refine zz ?_;(iterate 7 refine zq ?_);(iterate 4 refine zz ?_);refine zw ?_;refine zx ?_;(iterate 2 refine zz ?_);refine zzn ?_;refine T_ret ?_
  exact ⟨_, [_], .one (.tmp rfl), List.Sublist.refl _, rfl, by rw [hcan, h2_5]; rfl⟩
theorem zof_own {b : Bool} {l : List Nat} {z : Int} {k : Nat} [h : IsZ b l z k] (hs : k ≤ cap := by decide) : CallSpec Tryz.prog G 152 [aggS [boolS b, natS l]] [] (fun s H' => ∃ bn, s = eqS (.pointer (some ⟨bn, 0, none⟩)) ∧ H' = [⟨some bn, 201, canI z, 0⟩]) := by
 refine zs Tryz.func152 ?_;refine zr ?_;(iterate 2 refine zz ?_);refine zx ?_;(iterate 2 refine zz ?_);refine Run.box rfl rfl rfl rfl rfl rfl fun bn => ?_;refine Run.call1 0 rfl rfl rfl rfl (znorm_spec hs) rfl rfl rfl ?_
 rintro s1 H1 ⟨rfl, rfl⟩
 refine zz ?_;refine zzn ?_;refine T_ret ?_
 exact ⟨_, [_], .one (.tmp rfl), List.Sublist.refl _, bn, rfl, rfl⟩
theorem zof_spec {b : Bool} {l : List Nat} {z : Int} {k : Nat} [h : IsZ b l z k] (hs : k ≤ cap := by decide) : PSpec Tryz.prog G 152 [aggS [boolS b, natS l]] (ptrS (canI z)) := frz_spec (zof_own hs)
theorem zNorm_spec {b : Bool} {l : List Nat} {z : Int} {k : Nat} [h : IsZ b l z k] (hs : k ≤ cap := by decide) : PSpec Tryz.prog G 189 [aggS [boolS b, natS l]] (aggS (canI z)) := by
 refine zs Tryz.func189 ?_;refine zr ?_;refine zz ?_;refine zzv fun b2 => ?_;refine zx ?_;refine zz ?_;refine zf (zof_spec hs) ?_;(iterate 3 refine zz ?_);refine zw ?_;refine zzn ?_;refine T_ret ?_
 exact ⟨_, [], .one (.agg 0 inferInstance rfl rfl rfl rfl), List.nil_sublist _, rfl, rfl⟩
theorem zsign_spec {z : Int} (hs : (dig z.natAbs).length ≤ cap) : PSpec Tryz.prog G 153 [ptrS (canI z)] (intS .i64 z.sign) := by
 unfold cap at hs
 have hz := dig_len_zero (n := z.natAbs)
 obtain ⟨i, hi⟩ : ∃ i, i = min (dig z.natAbs).length 1 := ⟨_, rfl⟩
 have hi2 : i = 0 ∨ i = 1 := by omega
 refine zs Tryz.func153 ?_;refine zr ?_;refine zz ?_;refine zx ?_;refine zz ?_;refine zzv fun b3 => ?_;refine zw ?_;refine zx ?_;(iterate 6 refine zz ?_);refine zo ((ok_min rfl rfl rfl).sub (int_eq (n := ((i : Nat) : Int)) (by omega))) ?_;refine zz ?_;refine zzn ?_;refine T_seq ?_;refine zr ?_;(iterate 5 refine zz ?_);refine zzn ?_;refine zzc (fun h17 => ?_) fun h17 => ?_
 ·have hzn : z < 0 := of_decide_eq_true h17
  refine T_region ?_;refine zz ?_;refine zx ?_;refine zz ?_;refine zo (ok_indexArr (i := 2) rfl rfl rfl (by decide) rfl) ?_;refine zo ((ok_load_own 0 rfl rfl rfl rfl).sub (int_eq (n := z.sign) (by rw [Int.sign_eq_neg_one_of_neg hzn]))) ?_;refine zz ?_;refine zzn ?_;refine T_ret ?_
  exact ⟨_, [], .one (.tmp rfl), List.nil_sublist _, rfl, rfl⟩
 ·have hzn : ¬ z < 0 := of_decide_eq_false h17
  refine T_skip ?_;refine zr ?_;refine zz ?_;refine zo (ok_indexArr (i := i) (q := i) rfl rfl rfl (by omega) (by omega)) ?_;refine zo (ok_load_own (s := intS .i64 z.sign) 0 rfl rfl rfl (by rcases hi2 with e | e; rw [show z = 0 by omega, e]; rfl; rw [Int.sign_eq_one_of_pos (by omega), e]; rfl)) ?_;refine zz ?_;refine zzn ?_;refine T_ret ?_
  exact ⟨_, [], .one (.tmp rfl), List.nil_sublist _, rfl, rfl⟩
theorem zSign_spec {b : Bool} {l : List Nat} {z : Int} {k : Nat} [h : IsZ b l z k] (hs : k ≤ cap := by decide) : PSpec Tryz.prog G 108 [aggS [boolS b, natS l]] (intS .i64 z.sign) := by
 have hb := h.bz.len
 refine zs Tryz.func108 ?_;refine zr ?_;(iterate 2 refine zz ?_);refine zx ?_;refine zz ?_;refine zf (zof_spec hs) ?_;refine zo (ok_call rfl rfl (zsign_spec (by omega))) ?_;refine zz ?_;refine zzn ?_;refine T_ret ?_
 exact ⟨_, [], .one (.tmp rfl), List.nil_sublist _, rfl, rfl⟩
theorem znadd_spec {x y : Int} {bn k j : Nat} [hx : Bz x k] [hy : Bz y j] (hs : k + j + 10 ≤ cap := by decide) : CallSpec Tryz.prog G 182 [eqS (.pointer (some ⟨bn, 0, none⟩)), ptrS (canI y)] [⟨some bn, 201, canI x, 0⟩] (fun s H' => s = tupS [] ∧ H' = [⟨some bn, 201, canI (x + y), 0⟩]) := by
 unfold cap at hs
 have hxl := hx.len
 have hyl := hy.len
 have i1 : Bd x.natAbs k := ⟨hx.h⟩
 have i2 : Bd y.natAbs j := ⟨hy.h⟩
 have hd1 : (dig (x.natAbs + y.natAbs)).length ≤ k + j + 1 := dig_length_le (bd_sum hx.h hy.h)
 have hd2 : (dig (x.natAbs - y.natAbs)).length ≤ k := dig_length_le (Nat.lt_of_le_of_lt (Nat.sub_le _ _) hx.h)
 have hd3 : (dig (y.natAbs - x.natAbs)).length ≤ j := dig_length_le (Nat.lt_of_le_of_lt (Nat.sub_le _ _) hy.h)
 refine zs Tryz.func182 ?_;refine T_seq ?_;refine T_drawS 11 (by kernel_rfl) ?_;(iterate 10 refine zz ?_);refine zo (ok_eql_bool rfl rfl rfl Tryz.isBool4) ?_;(iterate 2 refine zzn ?_);refine zzc (fun h16 => ?_) fun h16 => ?_
 ·refine T_drawS 16 (by kernel_rfl) ?_;(iterate 11 refine zz ?_);refine zo (ok_buildSlice rfl rfl (by decide) rfl (by simp) rfl rfl) ?_;refine zo (ok_call rfl rfl (add2_spec (by unfold cap; omega))) ?_;(iterate 3 refine zz ?_);refine zzn ?_;refine zw ?_;refine zzn ?_
  have hsg : decide (x < 0) = decide (y < 0) := beq_iff_eq.1 h16
  have i3 : IsZ (decide (x < 0)) (dig (x.natAbs + y.natAbs)) (x + y) (k + j + 1) := ⟨lim_dig _, by rw [val_dig]; unfold sgn; by_cases hn : x < 0; have hm : y < 0 := of_decide_eq_true (hsg ▸ decide_eq_true hn); rw [if_pos (decide_eq_true hn)]; omega; have hm : ¬ y < 0 := fun h => hn (of_decide_eq_true (hsg.symm ▸ decide_eq_true h)); rw [if_neg (by simp [hn])]; omega, hd1⟩
  refine zr ?_;refine zz ?_;refine Run.call1 0 rfl rfl rfl rfl (znorm_spec (by unfold cap; omega)) rfl rfl rfl ?_
  rintro s1 H1 ⟨rfl, rfl⟩
  refine zzn ?_;refine T_ret ?_
  exact ⟨_, [_], .none, List.Sublist.refl _, rfl, rfl⟩
 ·have hsg : decide (x < 0) ≠ decide (y < 0) := beq_eq_false_iff_ne.1 h16
  have hsg2 : x < 0 ↔ ¬ y < 0 := by by_cases h1 : x < 0 <;> by_cases h2 : y < 0 <;> simp [h1, h2] at hsg ⊢
  refine T_skip ?_;refine T_drawS 16 (by kernel_rfl) ?_;(iterate 10 refine zz ?_);refine zo (ok_call rfl rfl (sub_spec (by unfold cap; omega))) ?_;(iterate 5 refine zz ?_);(iterate 2 refine zzn ?_);refine T_seq ?_;refine zr ?_;(iterate 2 refine zz ?_);refine zzn ?_;refine zzc (fun h50 => ?_) fun h50 => ?_
  ·have k50 := bne_iff_ne.1 h50
   have hlt : x.natAbs < y.natAbs := by rcases Nat.lt_or_ge x.natAbs y.natAbs with h | h; exact h; rw [if_neg (by omega)] at k50; exact absurd rfl k50
   refine T_drawS 15 (by kernel_rfl) ?_;(iterate 10 refine zz ?_);refine zo (ok_call rfl rfl (sub_spec (by unfold cap; omega))) ?_;(iterate 4 refine zz ?_);(iterate 2 refine zzn ?_);refine T_region ?_;(iterate 9 refine zz ?_);refine zw ?_;refine zx ?_;(iterate 5 refine zz ?_);refine zw ?_;refine zzn ?_
   have i3 : IsZ (decide (y < 0)) (dig (y.natAbs - x.natAbs)) (x + y) j := ⟨lim_dig _, by rw [val_dig]; unfold sgn; by_cases hm : y < 0; rw [if_pos (decide_eq_true hm)]; omega; rw [if_neg (by simp [hm])]; omega, hd3⟩
   refine T_region ?_;refine zz ?_;refine Run.call1 0 rfl rfl rfl rfl (znorm_spec (by unfold cap; omega)) rfl rfl rfl ?_
   rintro s1 H1 ⟨rfl, rfl⟩
   refine zzn ?_
   exact ⟨_, [_], .none, List.Sublist.refl _, rfl, rfl⟩
  ·have k50 := bne_eq_false_iff_eq.1 h50
   have hlt : y.natAbs ≤ x.natAbs := by rcases Nat.lt_or_ge x.natAbs y.natAbs with h | h; rw [if_pos h] at k50; cases k50; exact h
   refine T_skip ?_;refine zr ?_;(iterate 5 refine zz ?_);refine zw ?_;refine zzn ?_
   have i3 : IsZ (decide (x < 0)) (dig (x.natAbs - y.natAbs)) (x + y) k := ⟨lim_dig _, by rw [val_dig]; unfold sgn; by_cases hm : x < 0; rw [if_pos (decide_eq_true hm)]; omega; rw [if_neg (by simp [hm])]; omega, hd2⟩
   refine T_region ?_;refine zz ?_;refine Run.call1 0 rfl rfl rfl rfl (znorm_spec (by unfold cap; omega)) rfl rfl rfl ?_
   rintro s1 H1 ⟨rfl, rfl⟩
   refine zzn ?_
   exact ⟨_, [_], .none, List.Sublist.refl _, rfl, rfl⟩
theorem znmul_spec {x y : Int} {bn k j : Nat} [hx : Bz x k] [hy : Bz y j] (hs : 8 * (k + j) + 100 ≤ cap := by decide) : CallSpec Tryz.prog G 183 [eqS (.pointer (some ⟨bn, 0, none⟩)), ptrS (canI y)] [⟨some bn, 201, canI x, 0⟩] (fun s H' => s = tupS [] ∧ H' = [⟨some bn, 201, canI (x * y), 0⟩]) := by
 have hs0 := hs
 unfold cap at hs
 have i1 : Bd x.natAbs k := ⟨hx.h⟩
 have i2 : Bd y.natAbs j := ⟨hy.h⟩
 have i3 : IsZ (!(decide (x < 0) == decide (y < 0))) (dig (x.natAbs * y.natAbs)) (x * y) (k + j) := ⟨lim_dig _, by rw [val_dig]; exact (sgn_mul _ _ _ _).trans (by rw [sgn_self, sgn_self]), dig_length_le (by have := (bz_mul (x := x) (y := y)).h; rwa [Int.natAbs_mul] at this)⟩
 refine zs Tryz.func183 ?_;refine T_drawES 27 _ (by kernel_rfl) rfl (.cons _ .slnil) ?_;refine RunE.one (ok_move rfl rfl) rfl rfl rfl (by kernel_rfl) ?_;refine RunE.lat (ok_move rfl rfl) rfl rfl rfl ?_;refine RunE.one (ok_move rfl rfl) rfl rfl rfl (by kernel_rfl) ?_;refine RunE.one (ok_nilCheck_eq rfl rfl) rfl rfl rfl (by kernel_rfl) ?_;(iterate 2 refine RunE.one (ok_fieldAddr_eq rfl rfl rfl) rfl rfl rfl (by kernel_rfl) ?_);refine RunE.one (ok_load_own 0 rfl rfl rfl rfl) rfl rfl rfl (by kernel_rfl) ?_;refine RunE.one (ok_move rfl rfl) rfl rfl rfl (by kernel_rfl) ?_;refine RunE.one (ok_nilCheck rfl rfl) rfl rfl rfl (by kernel_rfl) ?_;(iterate 2 refine RunE.one (ok_fieldAddr rfl rfl rfl) rfl rfl rfl (by kernel_rfl) ?_);refine RunE.one (ok_load rfl rfl) rfl rfl rfl (by kernel_rfl) ?_;refine RunE.one (ok_neq_bool rfl rfl rfl Tryz.isBool4) rfl rfl rfl (by kernel_rfl) ?_;refine RunE.one (ok_move rfl rfl) rfl rfl rfl (by kernel_rfl) ?_;refine RunE.one (ok_nilCheck_eq rfl rfl) rfl rfl rfl (by kernel_rfl) ?_;(iterate 2 refine RunE.one (ok_fieldAddr_eq rfl rfl rfl) rfl rfl rfl (by kernel_rfl) ?_);refine RunE.one (ok_load_own 0 rfl rfl rfl rfl) rfl rfl rfl (by kernel_rfl) ?_;refine RunE.one (ok_move rfl rfl) rfl rfl rfl (by kernel_rfl) ?_;refine RunE.one (ok_nilCheck rfl rfl) rfl rfl rfl (by kernel_rfl) ?_;(iterate 2 refine RunE.one (ok_fieldAddr rfl rfl rfl) rfl rfl rfl (by kernel_rfl) ?_);refine RunE.one (ok_load rfl rfl) rfl rfl rfl (by kernel_rfl) ?_;refine RunE.one (ok_call rfl rfl (mul_spec hs0)) rfl rfl rfl (by kernel_rfl) ?_;refine RunE.one (ok_nilCheck_eq rfl rfl) rfl rfl rfl (by kernel_rfl) ?_;(iterate 2 refine RunE.one (ok_fieldAddr_eq rfl rfl rfl) rfl rfl rfl (by kernel_rfl) ?_);refine RunE.nil ?_;refine EffAt.store 0 rfl rfl rfl rfl rfl rfl rfl rfl (.cons _ .slnil) ?_;(iterate 3 refine zz ?_);refine zw ?_;refine zzn ?_;refine T_region ?_;refine zz ?_;refine Run.call1 0 rfl rfl rfl rfl (znorm_spec (by unfold cap; omega)) rfl rfl rfl ?_
 rintro s1 H1 ⟨rfl, rfl⟩
 refine zzn ?_
 exact ⟨_, [_], .none, List.Sublist.refl _, rfl, rfl⟩
theorem zall1_spec {xs : List (Bool × List Nat)} (hl : ∀ p ∈ xs, Lim p.2) (hs : ∀ p ∈ xs, p.2.length ≤ cap) : IterSpec Tryz.prog G 215 [ptrS [slS 2 zc xs]] (allX xs) := by
 refine iter_spec Tryz.func215 rfl rfl rfl rfl fun l E hy => ?_;refine zr ?_;(iterate 3 refine zz ?_);refine zzn ?_;refine T_block ?_;refine T_len 5 rfl fun la => ?_
 unfold big at la
 refine T_loop (γ := Nat) (fun g => ⟨_, [(7, intS .i64 (g : Nat)), (6, intS .i64 xs.length), (5, slS 2 zc xs), (0, yieldS l), (1, ptrS [slS 2 zc xs])], [], [], (g, false)⟩) (fun g => g ≤ xs.length) (fun g => xs.length - g) 0 (Nat.zero_le _) (ent_g zk) ?_
 intro g hg
 refine zr ?_;refine zz ?_;refine zzn ?_;refine T_seq ?_;refine zzc (fun h8 => ?_) fun h8 => ?_
 ·have k8 := of_decide_eq_true h8
  obtain ⟨⟨b, ml⟩, hp⟩ : ∃ p, xs[g]? = some p := ⟨_, List.getElem?_eq_getElem (by omega)⟩
  have hpm : (b, ml) ∈ xs := List.mem_of_getElem? hp
  have i1 : IsZ b ml (zv (b, ml)) ml.length := isZ_of (hl _ hpm)
  have hsl := hs _ hpm
  refine T_skip ?_;refine T_seq ?_;refine T_block ?_;refine zr ?_;refine zo (ok_indexAddr rfl rfl rfl (by omega) (y := (b, ml)) (hp)) ?_;refine zo ((show OpOK _ _ _ _ _ (aggS [boolS b, natS ml]) from ok_load_agg rfl rfl rfl rfl)) ?_;refine zzv fun b4 => ?_;refine zw ?_;refine zx ?_;refine zz ?_;refine zo ((show OpOK _ _ _ _ _ (aggS [boolS b, natS ml]) from ok_load_own_agg 0 rfl rfl rfl rfl rfl)) ?_;refine zf (zof_spec hsl) ?_;refine Run.yield rfl hy rfl rfl rfl (by simp only [allX, List.getElem?_map, hp]; rfl) (subL_refl _) rfl rfl rfl fun y => ?_;refine zz ?_;refine zzn ?_;refine zzc (fun h15 => ?_) fun h15 => ?_
  ·refine T_ret ?_
   exact ⟨.inl rfl, .inr h15⟩
  ·refine T_skip ?_;refine T_ghost (ghost_drop (h' := []) (List.nil_sublist _)) ?_;refine T_region ?_;refine za ((g + 1 : Nat) : Int) ?_;refine zz ?_;refine zzn ?_
   exact ⟨g + 1, (by omega : g + 1 ≤ xs.length), by omega, rfl, subG_cons rfl (subG_cons rfl (subG_cons rfl (subG_cons rfl (subG_cons rfl (trivial))))), subH_refl _, rfl, by simp only; rw [h15]⟩
 ·have k8 := of_decide_eq_false h8
  refine T_exit ?_
  exact ⟨.inr rfl, .inl (by rw [allX_length, show g = xs.length by omega])⟩
theorem zall_spec {xs : List (Bool × List Nat)} : PSpec Tryz.prog G 181 [slS 2 zc xs] (fnS 215 [ptrS [slS 2 zc xs]]) := by
 refine zs Tryz.func181 ?_;refine zr ?_;(iterate 2 refine zz ?_);refine zx ?_;(iterate 2 refine zz ?_);refine zzn ?_;refine T_ret ?_
 exact ⟨_, [], .one (.tmp rfl), List.nil_sublist _, rfl, rfl⟩
theorem zOf_spec {n : Int} (h1 : -9223372036854775808 ≤ n) (h2 : n ≤ 9223372036854775807) : PSpec Tryz.prog G 97 [intS .i64 n] (aggS (canI n)) := by
 refine zs Tryz.func97 ?_;refine zr ?_;refine zzv fun b2 => ?_;refine zzn ?_;refine T_seq ?_;refine zr ?_;(iterate 2 refine zz ?_);refine zzn ?_;refine zzc (fun h4 => ?_) fun h4 => ?_
 ·have k4 := of_decide_eq_true h4
  refine zr ?_;refine zz ?_;refine zo (ok_conv (z := 18446744073709551616 + n) rfl rfl (by rw [wrap_u64_mod]; omega)) ?_;refine zo ((ok_neg rfl rfl).sub (int_eq (n := ((n.natAbs : Nat) : Int)) (by rw [wrap_u64_mod]; omega))) ?_;refine zo (ok_call rfl rfl (of_spec (by omega))) ?_;refine zz ?_;refine zw ?_;refine zzn ?_;refine T_ret ?_
  exact ⟨_, [], .one (.agg 0 inferInstance rfl rfl rfl rfl), List.nil_sublist _, by rw [show canI n = [boolS true, natS (dig n.natAbs)] by show [boolS (decide (n < 0)), _] = _; rw [decide_eq_true (by omega)]]; rfl, rfl⟩
 ·have k4 := of_decide_eq_false h4
  refine T_skip ?_;refine zr ?_;refine zz ?_;refine zo (ok_conv (z := ((n.natAbs : Nat) : Int)) rfl rfl (by rw [wrap_u64_mod]; omega)) ?_;refine zo (ok_call rfl rfl (of_spec (by omega))) ?_;refine zz ?_;refine zw ?_;refine zzn ?_;refine T_ret ?_
  exact ⟨_, [], .one (.agg 0 inferInstance rfl rfl rfl rfl), List.nil_sublist _, by rw [show canI n = [boolS false, natS (dig n.natAbs)] by show [boolS (decide (n < 0)), _] = _; rw [decide_eq_false (by omega)]]; rfl, rfl⟩
theorem zadd_spec {xs : List (Bool × List Nat)} (hl : ∀ p ∈ xs, Lim p.2) (hs : szs xs xs.length + 1000 ≤ cap) : PSpec Tryz.prog G 140 [slS 2 zc xs] (aggS (canI (xs.foldl (fun z p => z + zv p) 0))) := by
 unfold cap at hs
 have hps : ∀ p ∈ xs, p.2.length ≤ cap := fun p hp => by
  obtain ⟨i, hi⟩ := List.getElem?_of_mem hp
  have h1 := szs_succ hi
  have h2 := szs_le xs (i + 1)
  unfold cap; omega
 refine zs Tryz.func140 ?_;refine zr ?_;refine zzv fun b2 => ?_;refine zx ?_;refine zo ((ok_build rfl rfl rfl).sub nilI_den) ?_;refine Run.call0 rfl rfl rfl (zof_own (z := 0)) rfl rfl rfl ?_
 rintro s1 H1 ⟨bn, rfl, rfl⟩
 refine zzv fun b3 => ?_;refine zw ?_;refine zzn ?_;refine T_seq ?_;refine zr ?_;refine zz ?_;refine zf zall_spec ?_;refine zzn ?_;refine T_block ?_
 refine T_rng rfl rfl (zall1_spec hl hps) (fun ss h => allX_ss h) (by decide) rfl
   (fun k h i => i = (0, false) ∧ k ≤ xs.length ∧ Bz ((xs.take k).foldl (fun z p => z + zv p) 0) (szs xs k + 1) ∧ h = [⟨some b3, 172, [eqS (.pointer (some ⟨bn, 0, none⟩))], 0⟩, ⟨some bn, 201, canI ((xs.take k).foldl (fun z p => z + zv p) 0), 0⟩, ⟨some b2, 26, [eqS (.bool false), eqS (.slice none 0 0)], 0⟩])
   (fun _ _ _ => False) ⟨rfl, Nat.zero_le _, by rw [List.take_zero]; exact bz_le (by show Bz 0 1; exact bz_le (l := 1) inferInstance (by decide)) (by omega), rfl⟩ ?_ ?_ ?_
 ·rintro l k ss h i hk ⟨rfl, _, hbz, rfl⟩
  obtain ⟨p, hp, rfl⟩ := allX_inv hk
  have hlt := lt_of_get hp
  obtain ⟨acc, hacc⟩ : ∃ acc, acc = (xs.take k).foldl (fun z p => z + zv p) 0 := ⟨_, rfl⟩
  have hfs := foldl_take (fun z p => z + zv p) 0 hp
  have hs1 := szs_succ hp
  have hs2 := szs_le xs (k + 1)
  rw [← hacc] at hbz hfs ⊢
  have i2 : Bz (zv p) p.2.length := (isZ_of (b := p.1) (hl p (List.mem_of_getElem? hp))).bz
  refine T_region ?_;refine zz ?_;refine zzn ?_
  refine ⟨rfl, ?_⟩
  refine T_block ?_;refine T_region ?_;(iterate 2 refine zz ?_);refine Run.call1 1 rfl rfl rfl rfl (znadd_spec (by unfold cap; omega)) rfl rfl rfl ?_
  rintro s1 H1 ⟨rfl, rfl⟩
  refine zzn ?_
  refine ⟨rfl, by omega, ?_, by rw [hfs]; rfl⟩
  rw [hfs, hs1]; exact bz_le (bz_add (h := hbz) (h' := i2)) (by omega)
 ·rintro h i D ⟨rfl, _, hbz, rfl⟩
  rw [allX_length, List.take_length]
  refine zr ?_;(iterate 4 refine zz ?_);refine zw ?_;refine zzn ?_;refine T_ret ?_
  exact ⟨_, [], .one (.agg 2 inferInstance rfl rfl rfl rfl), List.nil_sublist _, rfl, rfl⟩
 ·intro h i D e c hc hInv; exact hInv.elim
theorem zadd2_spec {b c : Bool} {l m : List Nat} {x y : Int} {k j : Nat} [hx : IsZ b l x k] [hy : IsZ c m y j] (hs : k + j + 1100 ≤ cap := by decide) : PSpec Tryz.prog G 140 [slS 2 id [[boolS b, natS l], [boolS c, natS m]]] (aggS (canI (x + y))) := by
 have h := zadd_spec (G := G) (xs := [(b, l), (c, m)]) (by intro p hp; rcases List.mem_cons.1 hp with rfl | hp; exact hx.lim; rw [List.mem_singleton.1 hp]; exact hy.lim) (by have := hx.len; have := hy.len; simp only [szs, List.length_cons, List.length_nil, List.take, List.map, List.sum_cons, List.sum_nil]; omega)
 have e : [(b, l), (c, m)].foldl (fun z p => z + zv p) 0 = x + y := by show 0 + sgn b (val l) + sgn c (val m) = _; rw [hx.val, hy.val, Int.zero_add]
 rw [e] at h
 exact h.args ⟨fun I v hv => sl_pair [(b, l), (c, m)] hv, trivial⟩
theorem zmul_spec {xs : List (Bool × List Nat)} (hl : ∀ p ∈ xs, Lim p.2) (hs : 20 * szs xs xs.length + 1000 ≤ cap) : PSpec Tryz.prog G 141 [slS 2 zc xs] (aggS (canI (xs.foldl (fun z p => z * zv p) 1))) := by
 unfold cap at hs
 have hps : ∀ p ∈ xs, p.2.length ≤ cap := fun p hp => by
  obtain ⟨i, hi⟩ := List.getElem?_of_mem hp
  have h1 := szs_succ hi
  have h2 := szs_le xs (i + 1)
  unfold cap; omega
 refine zs Tryz.func141 ?_;refine zr ?_;refine zzv fun b2 => ?_;refine zx ?_;refine zo (ok_call rfl rfl (zOf_spec (n := 1) (by decide) (by decide))) ?_;refine Run.call0 rfl rfl rfl (zof_own (z := 1)) rfl rfl rfl ?_
 rintro s1 H1 ⟨bn, rfl, rfl⟩
 refine zzv fun b3 => ?_;refine zw ?_;refine zzn ?_;refine T_seq ?_;refine zr ?_;refine zz ?_;refine zf zall_spec ?_;refine zzn ?_;refine T_block ?_
 refine T_rng rfl rfl (zall1_spec hl hps) (fun ss h => allX_ss h) (by decide) rfl
   (fun k h i => i = (0, false) ∧ k ≤ xs.length ∧ Bz ((xs.take k).foldl (fun z p => z * zv p) 1) (szs xs k + 1) ∧ h = [⟨some b3, 172, [eqS (.pointer (some ⟨bn, 0, none⟩))], 0⟩, ⟨some bn, 201, canI ((xs.take k).foldl (fun z p => z * zv p) 1), 0⟩, ⟨some b2, 26, [eqS (.bool false), eqS (.slice none 0 0)], 0⟩])
   (fun _ _ _ => False) ⟨rfl, Nat.zero_le _, by rw [List.take_zero]; exact bz_le (by show Bz 1 1; exact bz_le (l := 1) inferInstance (by decide)) (by omega), rfl⟩ ?_ ?_ ?_
 ·rintro l k ss h i hk ⟨rfl, _, hbz, rfl⟩
  obtain ⟨p, hp, rfl⟩ := allX_inv hk
  have hlt := lt_of_get hp
  obtain ⟨acc, hacc⟩ : ∃ acc, acc = (xs.take k).foldl (fun z p => z * zv p) 1 := ⟨_, rfl⟩
  have hfs := foldl_take (fun z p => z * zv p) 1 hp
  have hs1 := szs_succ hp
  have hs2 := szs_le xs (k + 1)
  rw [← hacc] at hbz hfs ⊢
  have i2 : Bz (zv p) p.2.length := (isZ_of (b := p.1) (hl p (List.mem_of_getElem? hp))).bz
  refine T_region ?_;refine zz ?_;refine zzn ?_
  refine ⟨rfl, ?_⟩
  refine T_block ?_;refine T_region ?_;(iterate 2 refine zz ?_);refine Run.call1 1 rfl rfl rfl rfl (znmul_spec (by unfold cap; omega)) rfl rfl rfl ?_
  rintro s1 H1 ⟨rfl, rfl⟩
  refine zzn ?_
  refine ⟨rfl, by omega, ?_, by rw [hfs]; rfl⟩
  rw [hfs, hs1]; exact bz_le (bz_mul (h := hbz) (h' := i2)) (by omega)
 ·rintro h i D ⟨rfl, _, hbz, rfl⟩
  rw [allX_length, List.take_length]
  refine zr ?_;(iterate 4 refine zz ?_);refine zw ?_;refine zzn ?_;refine T_ret ?_
  exact ⟨_, [], .one (.agg 2 inferInstance rfl rfl rfl rfl), List.nil_sublist _, rfl, rfl⟩
 ·intro h i D e c hc hInv; exact hInv.elim
theorem zmul2_spec {b c : Bool} {l m : List Nat} {x y : Int} {k j : Nat} [hx : IsZ b l x k] [hy : IsZ c m y j] (hs : 20 * (k + j) + 1100 ≤ cap := by decide) : PSpec Tryz.prog G 141 [slS 2 id [[boolS b, natS l], [boolS c, natS m]]] (aggS (canI (x * y))) := by
 have h := zmul_spec (G := G) (xs := [(b, l), (c, m)]) (by intro p hp; rcases List.mem_cons.1 hp with rfl | hp; exact hx.lim; rw [List.mem_singleton.1 hp]; exact hy.lim) (by have := hx.len; have := hy.len; simp only [szs, List.length_cons, List.length_nil, List.take, List.map, List.sum_cons, List.sum_nil]; omega)
 have e : [(b, l), (c, m)].foldl (fun z p => z * zv p) 1 = x * y := by show 1 * sgn b (val l) * sgn c (val m) = _; rw [hx.val, hy.val, Int.one_mul]
 rw [e] at h
 exact h.args ⟨fun I v hv => sl_pair [(b, l), (c, m)] hv, trivial⟩
theorem zneg_spec {b : Bool} {l : List Nat} {z : Int} {k : Nat} [h : IsZ b l z k] (hs : k ≤ cap := by decide) : PSpec Tryz.prog G 191 [aggS [boolS b, natS l]] (aggS (canI (-z))) := by
 refine zs Tryz.func191 ?_;refine zr ?_;refine Run.box rfl rfl rfl rfl rfl rfl fun b1 => ?_;refine zzv fun b2 => ?_;refine zx ?_;(iterate 4 refine zz ?_);refine zw ?_;refine zx ?_;refine zz ?_;refine zf (zNorm_spec hs) ?_;refine zw ?_;refine zzn ?_;refine T_ret ?_
 exact ⟨_, [], .one (.agg 0 inferInstance rfl rfl rfl rfl), List.nil_sublist _, rfl, rfl⟩
theorem zsub_spec {b c : Bool} {l m : List Nat} {x y : Int} {k j : Nat} [hx : IsZ b l x k] [hy : IsZ c m y j] (hs : k + j + 1100 ≤ cap := by decide) : PSpec Tryz.prog G 209 [aggS [boolS b, natS l], aggS [boolS c, natS m]] (aggS (canI (x - y))) := by
 have i1 := hx.bz
 have i2 := hy.bz
 refine zs Tryz.func209 ?_;refine zr ?_;(iterate 2 refine zz ?_);refine zzv fun b4 => ?_;refine zzn ?_;refine T_drawS 5 (by kernel_rfl) ?_;(iterate 2 refine zz ?_);refine zo (ok_call rfl rfl (zneg_spec (by omega))) ?_;refine zo (ok_buildSlice rfl rfl (by decide) rfl (by simp) rfl rfl) ?_;refine zo ((ok_call rfl rfl (zadd2_spec hs)).sub (show ∀ I v, (aggS (canI (x + -y))).den I v → (aggS (canI (x - y))).den I v from fun I v h => by rw [Int.sub_eq_add_neg]; exact h)) ?_;refine zzn ?_;refine zw ?_;refine zzn ?_;refine T_ret ?_
 exact ⟨_, [], .one (.agg 0 inferInstance rfl rfl rfl rfl), List.nil_sublist _, rfl, rfl⟩
theorem zcmp_spec {b c : Bool} {l m : List Nat} {x y : Int} {k j : Nat} [hx : IsZ b l x k] [hy : IsZ c m y j] (hs : k + j + 1100 ≤ cap := by decide) : PSpec Tryz.prog G 174 [aggS [boolS b, natS l], aggS [boolS c, natS m]] (intS .i64 (x - y).sign) := by
 have i1 := hx.bz
 have i2 := hy.bz
 refine zs Tryz.func174 ?_;refine zr ?_;(iterate 3 refine zz ?_);refine zx ?_;(iterate 2 refine zz ?_);refine zf (zsub_spec hs) ?_;refine zo (ok_call rfl rfl (zSign_spec (by omega))) ?_;refine zz ?_;refine zzn ?_;refine T_ret ?_
 exact ⟨_, [], .one (.tmp rfl), List.nil_sublist _, rfl, rfl⟩
end Go.Proofs
/- Integers: straitref05. -/
namespace Go.Proofs
open Go Go.Sv Num
variable {G : Imm}
theorem ghost_nilI {E : Env} {r : Option Nat} {n : Nat} {g : List (Nat × SV)} {b : Option Nat} {e k : Nat} {h : HL} {d : List Nat} {i : Nat × Bool} : Ghost G E r ⟨n, g, ⟨b, e, [eqS (.bool false), eqS (.slice none 0 0)], k⟩ :: h, d, i⟩ ⟨n, g, ⟨b, e, canI 0, k⟩ :: h, d, i⟩ :=
 ghost_heap ⟨rfl, rfl, rfl, rfl, fun I xs hd => by
  rw [← nilI]
  exact subL.dens (l := [eqS (.bool false), eqS (.slice none 0 0)]) (m := [boolS false, natS []]) ⟨fun _ _ h => h, nil_nat rfl, trivial⟩ hd, subH_refl h⟩
theorem rznorm_spec {b : Bool} {l : List Nat} {z : Int} {k : Nat} [h : IsZ b l z k] (hs : k ≤ cap := by decide) : PSpec Tryz.prog G 107 [aggS [boolS b, natS l]] (aggS (canI z)) := by
 have hn := h.nat
 have hlen := h.len
 have hcan := h.can
 refine zs Tryz.func107 ?_;refine zr ?_;refine zz ?_;refine zzv fun b2 => ?_;refine zx ?_;(iterate 2 refine zz ?_);refine zo (ok_call rfl rfl (rtrim_spec (by omega))) ?_;refine zz ?_;refine zx ?_;refine zz ?_
 refine Run.oneB (ok_load rfl rfl) rfl rfl rfl (fun h2_1 => ?_) (fun h2_1 => ?_)
 ·refine zz ?_;(iterate 6 refine zz ?_);refine zw ?_;refine zzn ?_;refine T_ret ?_
  exact ⟨_, [], .one (.agg 0 inferInstance rfl rfl rfl rfl), List.nil_sublist _, by rw [hcan, h2_1, Bool.true_and]; exact congrArg (fun x : Bool => aggS [boolS x, natS (dig z.natAbs)]) (decide_eq_decide.2 (by have := dig_len_zero (n := z.natAbs); omega)), rfl⟩
 ·refine zz ?_;(iterate 3 refine zq ?_);(iterate 3 refine zz ?_);refine zw ?_;refine zzn ?_;refine T_ret ?_
  exact ⟨_, [], .one (.agg 0 inferInstance rfl rfl rfl rfl), List.nil_sublist _, by rw [hcan, h2_1]; rfl, rfl⟩
theorem rtold_spec {b c : Bool} {l m : List Nat} : PSpec Tryz.prog G 90 [aggS [boolS b, natS l], aggS [boolS c, natS m]] (boolS (decide (b = c ∧ l = m))) := by
 refine zs Tryz.func90 ?_;refine zr ?_;(iterate 3 refine zz ?_);refine zx ?_;(iterate 4 refine zz ?_)
 refine Run.oneB (ok_eql_bool rfl rfl rfl Tryz.isBool4) rfl rfl rfl (fun h1_4 => ?_) (fun h1_4 => ?_)
 ·refine zz ?_;(iterate 4 refine zz ?_);refine zf rsame_spec ?_;(iterate 2 refine zz ?_);refine zzn ?_;refine T_ret ?_
  exact ⟨_, [], .one (.tmp rfl), List.nil_sublist _, congrArg boolS (decide_eq_decide.2 (by rw [beq_iff_eq.1 h1_4]; simp)), rfl⟩
 ·refine zz ?_;(iterate 5 refine zq ?_);(iterate 2 refine zz ?_);refine zzn ?_;refine T_ret ?_
  exact ⟨_, [], .one (.tmp rfl), List.nil_sublist _, congrArg boolS (decide_eq_false (fun h => beq_eq_false_iff_ne.1 h1_4 h.1)).symm, rfl⟩
theorem rzSign_spec {b : Bool} {l : List Nat} {z : Int} {k : Nat} [h : IsZ b l z k] (hs : k ≤ cap := by decide) : PSpec Tryz.prog G 64 [aggS [boolS b, natS l]] (intS .i64 z.sign) := by
 have hz := dig_len_zero (n := z.natAbs)
 refine zs Tryz.func64 ?_;refine zr ?_;refine Run.box rfl rfl rfl rfl rfl rfl fun b1 => ?_;refine zz ?_;refine zx ?_;refine zz ?_;refine zf (rznorm_spec hs) ?_;refine zw ?_;refine zzn ?_;refine T_seq ?_;refine T_block ?_;refine zr ?_;(iterate 5 refine zz ?_);refine zzn ?_;refine zzc (fun h5 => ?_) fun h5 => ?_
 ·have k5 := beq_iff_eq.1 h5
  have hz0 : z = 0 := by omega
  refine zr ?_;refine zz ?_;refine zzn ?_;refine T_ret ?_
  exact ⟨_, [], .one (.tmp rfl), List.nil_sublist _, by rw [hz0]; rfl, rfl⟩
 ·have k5 := beq_eq_false_iff_ne.1 h5
  have hz0 : z ≠ 0 := fun h => k5 (by rw [h]; exact congrArg (fun x : Nat => (x : Int)) (dig_len_zero.2 rfl))
  refine zr ?_;(iterate 3 refine zz ?_);refine zzn ?_;refine zzc (fun h10 => ?_) fun h10 => ?_
  ·refine zr ?_;refine zz ?_;refine zzn ?_;refine T_ret ?_
   exact ⟨_, [], .one (.tmp rfl), List.nil_sublist _, by rw [Int.sign_eq_neg_one_of_neg (of_decide_eq_true h10)], rfl⟩
  ·refine T_skip ?_;refine zr ?_;refine zz ?_;refine zzn ?_;refine T_ret ?_
   exact ⟨_, [], .one (.tmp rfl), List.nil_sublist _, by rw [Int.sign_eq_one_of_pos (by have := of_decide_eq_false h10; omega)], rfl⟩
theorem rzOf_spec {n : Int} (h1 : -9223372036854775808 ≤ n) (h2 : n ≤ 9223372036854775807) : PSpec Tryz.prog G 68 [intS .i64 n] (aggS (canI n)) := by
 refine zs Tryz.func68 ?_;refine zr ?_;refine zzv fun b2 => ?_;refine zzn ?_;refine T_seq ?_;refine zr ?_;(iterate 2 refine zz ?_);refine zzn ?_;refine zzc (fun h4 => ?_) fun h4 => ?_
 ·have k4 := of_decide_eq_true h4
  refine zr ?_;refine zz ?_;refine zo (ok_ari (z := n + 1) rfl rfl rfl (congrArg some (by omega)) (wrap_i64 (by omega) (by omega))) ?_;refine zo ((ok_neg rfl rfl).sub (int_eq (n := -(n + 1)) ((wrap_i64 (by omega) (by omega)).trans (by omega)))) ?_;refine zo (ok_conv (z := -(n + 1)) rfl rfl (wrap_u64 (by omega) (by omega))) ?_;refine za ((n.natAbs : Nat) : Int) ?_;refine zo (ok_call rfl rfl (rof_spec (by omega))) ?_;refine zz ?_;refine zw ?_;refine zzn ?_;refine T_ret ?_
  exact ⟨_, [], .one (.agg 0 inferInstance rfl rfl rfl rfl), List.nil_sublist _, by rw [show canI n = [boolS true, natS (dig n.natAbs)] by show [boolS (decide (n < 0)), _] = _; rw [decide_eq_true (by omega)]]; rfl, rfl⟩
 ·have k4 := of_decide_eq_false h4
  refine T_skip ?_;refine zr ?_;refine zz ?_;refine zo (ok_conv (z := ((n.natAbs : Nat) : Int)) rfl rfl (by rw [wrap_u64_mod]; omega)) ?_;refine zo (ok_call rfl rfl (rof_spec (by omega))) ?_;refine zz ?_;refine zw ?_;refine zzn ?_;refine T_ret ?_
  exact ⟨_, [], .one (.agg 0 inferInstance rfl rfl rfl rfl), List.nil_sublist _, by rw [show canI n = [boolS false, natS (dig n.natAbs)] by show [boolS (decide (n < 0)), _] = _; rw [decide_eq_false (by omega)]]; rfl, rfl⟩
theorem rzneg_spec {b : Bool} {l : List Nat} {z : Int} {k : Nat} [h : IsZ b l z k] (hs : k ≤ cap := by decide) : PSpec Tryz.prog G 60 [aggS [boolS b, natS l]] (aggS (canI (-z))) := by
 refine zs Tryz.func60 ?_;refine zr ?_;refine zz ?_;refine zzv fun b2 => ?_;refine zx ?_;(iterate 6 refine zz ?_);refine zf (rznorm_spec hs) ?_;refine zw ?_;refine zzn ?_;refine T_ret ?_
 exact ⟨_, [], .one (.agg 0 inferInstance rfl rfl rfl rfl), List.nil_sublist _, rfl, rfl⟩
theorem rztwo_spec {b c : Bool} {l m : List Nat} {x y : Int} {k j : Nat} [hx : IsZ b l x k] [hy : IsZ c m y j] (hs : k + j + 100 ≤ cap := by decide) : PSpec Tryz.prog G 154 [aggS [boolS b, natS l], aggS [boolS c, natS m]] (aggS (canI (x + y))) := by
 unfold cap at hs
 have hxn := hx.nat
 have hyn := hy.nat
 have hxl := hx.len
 have hyl := hy.len
 have i1 : Sz l k := ⟨hxl⟩
 have i2 : Sz m j := ⟨hyl⟩
 have hxb := hx.bz
 have hyb := hy.bz
 have hxe : sgn b x.natAbs = x := by have h1 := hx.val; rwa [hxn.val] at h1
 have hye : sgn c y.natAbs = y := by have h1 := hy.val; rwa [hyn.val] at h1
 have hd1 : (dig (x.natAbs + y.natAbs)).length ≤ k + j + 1 := dig_length_le (bd_sum hxb.h hyb.h)
 have hd2 : (dig (x.natAbs - y.natAbs)).length ≤ k := dig_length_le (Nat.lt_of_le_of_lt (Nat.sub_le _ _) hxb.h)
 have hd3 : (dig (y.natAbs - x.natAbs)).length ≤ j := dig_length_le (Nat.lt_of_le_of_lt (Nat.sub_le _ _) hyb.h)
 unfold sgn at hxe hye
 refine zs Tryz.func154 ?_;refine zr ?_;(iterate 2 refine zz ?_);refine zzv fun b4 => ?_;refine zzn ?_;refine T_seq ?_;refine zr ?_;(iterate 4 refine zz ?_);refine zo (ok_eql_bool rfl rfl rfl Tryz.isBool4) ?_;refine zzn ?_;refine zzc (fun h11 => ?_) fun h11 => ?_
 ·have hbc : b = c := beq_iff_eq.1 h11
  have i3 : IsZ b (dig (x.natAbs + y.natAbs)) (x + y) (k + j + 1) := ⟨lim_dig _, by rw [val_dig]; unfold sgn; rw [← hbc] at hye; split at hxe <;> simp_all <;> omega, hd1⟩
  refine T_drawS 10 (by kernel_rfl) ?_;(iterate 6 refine zz ?_);refine zo (ok_buildSlice rfl rfl (by decide) rfl (by simp) rfl rfl) ?_;refine zo (ok_call rfl rfl (radd2_spec (by unfold cap; omega))) ?_;refine zz ?_;refine zo (ok_call rfl rfl (rznorm_spec (by unfold cap; omega))) ?_;refine zzn ?_;refine zw ?_;refine zzn ?_;refine T_ret ?_
  exact ⟨_, [], .one (.agg 0 inferInstance rfl rfl rfl rfl), List.nil_sublist _, rfl, rfl⟩
 ·have hbc : b ≠ c := beq_eq_false_iff_ne.1 h11
  refine T_skip ?_;refine zr ?_;(iterate 4 refine zz ?_);refine zo (ok_call rfl rfl (rsub_spec (by unfold cap; omega))) ?_;(iterate 5 refine zz ?_);refine zzn ?_;refine T_seq ?_;refine zr ?_;(iterate 2 refine zz ?_);refine zzn ?_;refine zzc (fun h31 => ?_) fun h31 => ?_
  ·have k31 := beq_iff_eq.1 h31
   have hlt : y.natAbs ≤ x.natAbs := by rcases Nat.lt_or_ge x.natAbs y.natAbs with h | h; rw [if_pos h] at k31; cases k31; exact h
   have i3 : IsZ b (dig (x.natAbs - y.natAbs)) (x + y) k := ⟨lim_dig _, by rw [val_dig]; unfold sgn; cases b <;> cases c <;> simp_all <;> omega, hd2⟩
   refine zr ?_;(iterate 4 refine zz ?_);refine zo (ok_call rfl rfl (rznorm_spec (by unfold cap; omega))) ?_;refine zw ?_;refine zzn ?_;refine T_ret ?_
   exact ⟨_, [], .one (.agg 0 inferInstance rfl rfl rfl rfl), List.nil_sublist _, rfl, rfl⟩
  ·have k31 := beq_eq_false_iff_ne.1 h31
   have hlt : x.natAbs < y.natAbs := by rcases Nat.lt_or_ge x.natAbs y.natAbs with h | h; exact h; rw [if_neg (by omega)] at k31; exact absurd rfl k31
   have i3 : IsZ c (dig (y.natAbs - x.natAbs)) (x + y) j := ⟨lim_dig _, by rw [val_dig]; unfold sgn; cases b <;> cases c <;> simp_all <;> omega, hd3⟩
   refine T_skip ?_;refine zr ?_;(iterate 4 refine zz ?_);refine zo (ok_call rfl rfl (rsub_spec (by unfold cap; omega))) ?_;(iterate 4 refine zz ?_);refine zx ?_;(iterate 4 refine zz ?_);refine zo (ok_call rfl rfl (rznorm_spec (by unfold cap; omega))) ?_;refine zw ?_;refine zzn ?_;refine T_ret ?_
   exact ⟨_, [], .one (.agg 0 inferInstance rfl rfl rfl rfl), List.nil_sublist _, rfl, rfl⟩
theorem rzadd_spec {xs : List (Bool × List Nat)} (hl : ∀ p ∈ xs, Lim p.2) (hs : szs xs xs.length + 1000 ≤ cap) : PSpec Tryz.prog G 111 [slS 2 zc xs] (aggS (canI (xs.foldl (fun z p => z + zv p) 0))) := by
 unfold cap at hs
 have hps : ∀ p ∈ xs, p.2.length ≤ cap := fun p hp => by
  obtain ⟨i, hi⟩ := List.getElem?_of_mem hp
  have h1 := szs_succ hi
  have h2 := szs_le xs (i + 1)
  unfold cap; omega
 refine zs Tryz.func111 ?_;refine zr ?_;refine zzv fun b2 => ?_;refine zx ?_;refine zzv fun b3 => ?_;refine zzn ?_;refine T_seq ?_;refine zr ?_;refine Run.ghost _ rfl ghost_nilI ?_;refine zz ?_;refine zzn ?_;refine T_block ?_;refine T_len 0 rfl fun la => ?_
 unfold big at la
 refine T_loop2 (fun (i : Nat) (acc : Int) => ⟨_, [(4, intS .i64 (i : Nat)), (3, eqS (.pointer (some ⟨b3, 0, none⟩))), (2, eqS (.pointer (some ⟨b2, 0, none⟩))), (0, slS 2 zc xs)], [⟨some b3, 26, canI acc, 0⟩, ⟨some b2, 26, [eqS (.bool false), eqS (.slice none 0 0)], 0⟩], [], (0, false)⟩)
   (fun i acc => i ≤ xs.length ∧ acc = (xs.take i).foldl (fun z p => z + zv p) 0 ∧ Bz acc (szs xs i + 1)) (fun i acc => xs.length - i)
   0 0 ⟨Nat.zero_le _, rfl, bz_le (l := szs xs 0 + 1) (show Bz 0 1 from bz_le (l := 1) inferInstance (by decide)) (by omega)⟩ (ent_h zk rfl) ?_
 rintro i acc ⟨hi, hacc, hbz⟩
 refine T_seq ?_;refine zr ?_;(iterate 4 refine zz ?_);refine zzn ?_;refine zzc (fun h8 => ?_) fun h8 => ?_
 ·have k8 := of_decide_eq_true h8
  obtain ⟨⟨b, m⟩, hp⟩ : ∃ p, xs[i]? = some p := ⟨_, List.getElem?_eq_getElem (by omega)⟩
  have hpm : (b, m) ∈ xs := List.mem_of_getElem? hp
  have i1 : IsZ b m (zv (b, m)) m.length := isZ_of (hl _ hpm)
  have i2 := i1.bz
  have hsl := hps _ hpm
  have hs1 := szs_succ hp
  have hs2 := szs_le xs (i + 1)
  simp only at hs1 hsl
  refine T_skip ?_;refine T_seq ?_;refine T_block ?_;refine T_draw 7 (by kernel_rfl) ?_;(iterate 3 refine zz ?_);refine zo (ok_indexAddr rfl rfl rfl (by omega) (y := (b, m)) (hp)) ?_;refine zo ((show OpOK _ _ _ _ _ (aggS [boolS b, natS m]) from ok_load_agg rfl rfl rfl rfl)) ?_;refine zf (rznorm_spec hsl) ?_;refine zo (ok_call rfl rfl (rztwo_spec (by unfold cap; omega))) ?_;refine zzn ?_;refine zw ?_;refine zzn ?_;refine T_region ?_;(iterate 3 refine zz ?_);refine zzn ?_
  exact ⟨i + 1, acc + zv (b, m), ⟨by omega, by rw [hacc, foldl_take (fun z p => z + zv p) 0 hp], bz_le (bz_add (h := hbz) (h' := i2)) (by omega)⟩, by omega, ent_h (subG_cons rfl (subG_cons rfl (subG_cons rfl (subG_cons rfl (trivial))))) rfl⟩
 ·have k8 := of_decide_eq_false h8
  have hie : i = xs.length := by omega
  rw [hie, List.take_length] at hacc
  rw [hie] at hbz
  refine T_exit ?_;refine zr ?_;refine zz ?_;refine zo (ok_call rfl rfl (rznorm_spec (by unfold cap; omega))) ?_;refine zw ?_;refine zzn ?_;refine T_ret ?_
  exact ⟨_, [], .one (.agg 1 inferInstance rfl rfl rfl rfl), List.nil_sublist _, by rw [hacc]; rfl, rfl⟩
theorem rzadd2_spec {b c : Bool} {l m : List Nat} {x y : Int} {k j : Nat} [hx : IsZ b l x k] [hy : IsZ c m y j] (hs : k + j + 1100 ≤ cap := by decide) : PSpec Tryz.prog G 111 [slS 2 id [[boolS b, natS l], [boolS c, natS m]]] (aggS (canI (x + y))) := by
 have h := rzadd_spec (G := G) (xs := [(b, l), (c, m)]) (by intro p hp; rcases List.mem_cons.1 hp with rfl | hp; exact hx.lim; rw [List.mem_singleton.1 hp]; exact hy.lim) (by have := hx.len; have := hy.len; simp only [szs, List.length_cons, List.length_nil, List.take, List.map, List.sum_cons, List.sum_nil]; omega)
 have e : [(b, l), (c, m)].foldl (fun z p => z + zv p) 0 = x + y := by show 0 + sgn b (val l) + sgn c (val m) = _; rw [hx.val, hy.val, Int.zero_add]
 rw [e] at h
 exact h.args ⟨fun I v hv => sl_pair [(b, l), (c, m)] hv, trivial⟩
theorem rzsub_spec {b c : Bool} {l m : List Nat} {x y : Int} {k j : Nat} [hx : IsZ b l x k] [hy : IsZ c m y j] (hs : k + j + 1100 ≤ cap := by decide) : PSpec Tryz.prog G 65 [aggS [boolS b, natS l], aggS [boolS c, natS m]] (aggS (canI (x - y))) := by
 have i1 := hx.bz
 have i2 := hy.bz
 refine zs Tryz.func65 ?_;refine zr ?_;(iterate 2 refine zz ?_);refine zzv fun b4 => ?_;refine zzn ?_;refine T_drawS 5 (by kernel_rfl) ?_;(iterate 2 refine zz ?_);refine zo (ok_call rfl rfl (rzneg_spec (by omega))) ?_;refine zo (ok_buildSlice rfl rfl (by decide) rfl (by simp) rfl rfl) ?_;refine zo ((ok_call rfl rfl (rzadd2_spec hs)).sub (show ∀ I v, (aggS (canI (x + -y))).den I v → (aggS (canI (x - y))).den I v from fun I v h => by rw [Int.sub_eq_add_neg]; exact h)) ?_;refine zzn ?_;refine zw ?_;refine zzn ?_;refine T_ret ?_
 exact ⟨_, [], .one (.agg 0 inferInstance rfl rfl rfl rfl), List.nil_sublist _, rfl, rfl⟩
theorem rzmul_spec {xs : List (Bool × List Nat)} (hl : ∀ p ∈ xs, Lim p.2) (hs : 20 * szs xs xs.length + 1000 ≤ cap) : PSpec Tryz.prog G 66 [slS 2 zc xs] (aggS (canI (xs.foldl (fun z p => z * zv p) 1))) := by
 unfold cap at hs
 have hps : ∀ p ∈ xs, p.2.length ≤ cap := fun p hp => by
  obtain ⟨i, hi⟩ := List.getElem?_of_mem hp
  have h1 := szs_succ hi
  have h2 := szs_le xs (i + 1)
  unfold cap; omega
 refine zs Tryz.func66 ?_;refine zr ?_;refine zzv fun b2 => ?_;refine zx ?_;refine zo (ok_call rfl rfl (rzOf_spec (n := 1) (by decide) (by decide))) ?_;refine zzv fun b3 => ?_;refine zw ?_;refine zzn ?_;refine T_seq ?_;refine zr ?_;refine zz ?_;refine zzn ?_;refine T_block ?_;refine T_len 0 rfl fun la => ?_
 unfold big at la
 refine T_loop2 (fun (i : Nat) (acc : Int) => ⟨_, [(4, intS .i64 (i : Nat)), (3, eqS (.pointer (some ⟨b3, 0, none⟩))), (2, eqS (.pointer (some ⟨b2, 0, none⟩))), (0, slS 2 zc xs)], [⟨some b3, 26, canI acc, 0⟩, ⟨some b2, 26, [eqS (.bool false), eqS (.slice none 0 0)], 0⟩], [], (0, false)⟩)
   (fun i acc => i ≤ xs.length ∧ acc = (xs.take i).foldl (fun z p => z * zv p) 1 ∧ Bz acc (szs xs i + 1)) (fun i acc => xs.length - i)
   0 1 ⟨Nat.zero_le _, rfl, bz_le (l := szs xs 0 + 1) (show Bz 1 1 from bz_le (l := 1) inferInstance (by decide)) (by omega)⟩ (ent_h zk rfl) ?_
 rintro i acc ⟨hi, hacc, hbz⟩
 refine T_seq ?_;refine zr ?_;(iterate 4 refine zz ?_);refine zzn ?_;refine zzc (fun h9 => ?_) fun h9 => ?_
 ·have k9 := of_decide_eq_true h9
  obtain ⟨⟨b, m⟩, hp⟩ : ∃ p, xs[i]? = some p := ⟨_, List.getElem?_eq_getElem (by omega)⟩
  have hpm : (b, m) ∈ xs := List.mem_of_getElem? hp
  have i1 : IsZ b m (zv (b, m)) m.length := isZ_of (hl _ hpm)
  have i2 := i1.bz
  have hsl := hps _ hpm
  have hs1 := szs_succ hp
  have hs2 := szs_le xs (i + 1)
  simp only at hs1 hsl
  have i5 := i1.nat
  have hln := hbz.len
  have hx : sgn b (zv (b, m)).natAbs = zv (b, m) := by show _ = sgn b (val m); rw [i5.val.symm]
  have i3 : IsZ (!(decide (acc < 0) == b)) (dig (acc.natAbs * (zv (b, m)).natAbs)) (acc * zv (b, m)) (szs xs i + 1 + m.length) := ⟨lim_dig _, by rw [val_dig]; exact (sgn_mul _ _ _ _).trans (by rw [sgn_self, hx]), dig_length_le (by have := (bz_mul (x := acc) (y := zv (b, m)) (h := hbz) (h' := i2)).h; rwa [Int.natAbs_mul] at this)⟩
  refine T_skip ?_;refine T_seq ?_;refine T_block ?_;refine T_draw 18 (by kernel_rfl) ?_;(iterate 4 refine zz ?_);refine zo (ok_indexAddr rfl rfl rfl (by omega) (y := (b, m)) (hp)) ?_;refine zo ((show OpOK _ _ _ _ _ (ptrS [boolS b, natS m]) from ok_fieldAddr rfl rfl rfl)) ?_;refine zz ?_;refine zo (ok_neq_bool rfl rfl rfl Tryz.isBool4) ?_;(iterate 4 refine zz ?_);refine zo (ok_indexAddr rfl rfl rfl (by omega) (y := (b, m)) (hp)) ?_;refine zo ((show OpOK _ _ _ _ _ (ptrS [natS m]) from ok_fieldAddr rfl rfl rfl)) ?_;refine zz ?_;refine zo (ok_call rfl rfl (rmul_spec (by unfold cap; omega))) ?_;refine zz ?_;refine zo (ok_call rfl rfl (rznorm_spec (by unfold cap; omega))) ?_;refine zzn ?_;refine zw ?_;refine zzn ?_;refine T_region ?_;(iterate 3 refine zz ?_);refine zzn ?_
  exact ⟨i + 1, acc * zv (b, m), ⟨by omega, by rw [hacc, foldl_take (fun z p => z * zv p) 1 hp], bz_le (bz_mul (h := hbz) (h' := i2)) (by omega)⟩, by omega, ent_h (subG_cons rfl (subG_cons rfl (subG_cons rfl (subG_cons rfl (trivial))))) rfl⟩
 ·have k9 := of_decide_eq_false h9
  have hie : i = xs.length := by omega
  rw [hie, List.take_length] at hacc
  refine T_exit ?_;refine zr ?_;refine zz ?_;refine zw ?_;refine zzn ?_;refine T_ret ?_
  exact ⟨_, [], .one (.agg 1 inferInstance rfl rfl rfl rfl), List.nil_sublist _, by rw [hacc]; rfl, rfl⟩
theorem rzmul2_spec {b c : Bool} {l m : List Nat} {x y : Int} {k j : Nat} [hx : IsZ b l x k] [hy : IsZ c m y j] (hs : 20 * (k + j) + 1100 ≤ cap := by decide) : PSpec Tryz.prog G 66 [slS 2 id [[boolS b, natS l], [boolS c, natS m]]] (aggS (canI (x * y))) := by
 have h := rzmul_spec (G := G) (xs := [(b, l), (c, m)]) (by intro p hp; rcases List.mem_cons.1 hp with rfl | hp; exact hx.lim; rw [List.mem_singleton.1 hp]; exact hy.lim) (by have := hx.len; have := hy.len; simp only [szs, List.length_cons, List.length_nil, List.take, List.map, List.sum_cons, List.sum_nil]; omega)
 have e : [(b, l), (c, m)].foldl (fun z p => z * zv p) 1 = x * y := by show 1 * sgn b (val l) * sgn c (val m) = _; rw [hx.val, hy.val, Int.one_mul]
 rw [e] at h
 exact h.args ⟨fun I v hv => sl_pair [(b, l), (c, m)] hv, trivial⟩
end Go.Proofs
/- Rationals: rat. -/
namespace Go.Proofs
open Go Go.Sv Num
variable {G : Imm}
abbrev canQ (q : Rat) : List SV := [boolS (decide (q.num < 0)), natS (dig q.num.natAbs), natS (dig q.den)]
class Bq (q : Rat) (k : outParam Nat) : Prop where
 num : q.num.natAbs < 4294967296 ^ k
 den : q.den < 4294967296 ^ k
class IsQ (b : Bool) (l d : List Nat) (q : outParam Rat) (k : outParam Nat) : Prop where
 lim : Lim l
 limd : Lim d
 val : mkRat (sgn b (Num.val l)) (Num.val d) = q
 len : l.length ≤ k
 lend : d.length ≤ k
 pos : 0 < k
theorem Bq.bz {q : Rat} {k : Nat} (h : Bq q k) : Bz q.num k := ⟨h.num⟩
theorem Bq.bd {q : Rat} {k : Nat} (h : Bq q k) : Bd q.den k := ⟨h.den⟩
theorem Bq.pos {q : Rat} {k : Nat} (h : Bq q k) : 0 < k := by
 rcases Nat.eq_zero_or_pos k with e | e
 ·have h1 := h.den; rw [e, Nat.pow_zero] at h1; exact absurd q.den_pos (by omega)
 ·exact e
theorem Bq.lens {q : Rat} {k : Nat} (h : Bq q k) : (dig q.num.natAbs).length ≤ k ∧ (dig q.den).length ≤ k := ⟨dig_length_le h.num, dig_length_le h.den⟩
instance isQ_can {q : Rat} {k : Nat} [h : Bq q k] : IsQ (decide (q.num < 0)) (dig q.num.natAbs) (dig q.den) q k :=
 ⟨lim_dig _, lim_dig _, by rw [val_dig, val_dig, sgn_self, Rat.mkRat_self], h.lens.1, h.lens.2, h.pos⟩
theorem mkRat_le {z : Int} {d : Nat} (hd : d ≠ 0) : (mkRat z d).num.natAbs ≤ z.natAbs ∧ (mkRat z d).den ≤ d := by
 have h1 := mkRat_abs (b := decide (z < 0)) (a := z.natAbs) hd
 have h2 := mkRat_den (b := decide (z < 0)) (a := z.natAbs) hd
 rw [sgn_self] at h1 h2
 exact ⟨by rw [h1]; exact Nat.div_le_self _ _, by rw [h2]; exact Nat.div_le_self _ _⟩
theorem bq_mkRat {z : Int} {d k : Nat} (hz : z.natAbs < 4294967296 ^ k) (hd : d < 4294967296 ^ k) (hk : 0 < k) : Bq (mkRat z d) k := by
 rcases Nat.eq_zero_or_pos d with e | e
 ·rw [e, Rat.mkRat_zero]; exact ⟨Nat.pow_pos (by decide), Nat.one_lt_pow (by omega) (by decide)⟩
 ·obtain ⟨h1, h2⟩ := mkRat_le (z := z) (d := d) (by omega)
  exact ⟨Nat.lt_of_le_of_lt h1 hz, Nat.lt_of_le_of_lt h2 hd⟩
theorem IsQ.bq {b : Bool} {l d : List Nat} {q : Rat} {k : Nat} (h : IsQ b l d q k) : Bq q k := by
 rw [← h.val]
 exact bq_mkRat (by rw [sgn_natAbs]; exact Nat.lt_of_lt_of_le (val_lt h.lim) (Nat.pow_le_pow_right (by decide) h.len)) (Nat.lt_of_lt_of_le (val_lt h.limd) (Nat.pow_le_pow_right (by decide) h.lend)) h.pos
theorem bq_le {q : Rat} {k l : Nat} (h : Bq q k) (hl : k ≤ l) : Bq q l := ⟨Nat.lt_of_lt_of_le h.num (Nat.pow_le_pow_right (by decide) hl), Nat.lt_of_lt_of_le h.den (Nat.pow_le_pow_right (by decide) hl)⟩
theorem dbl_lt {x y k : Nat} (h : x < 4294967296 ^ k) (h' : y < 4294967296 ^ k) : x + y < 4294967296 ^ (k + 1) := by
 rw [pow_split]; exact Nat.lt_of_lt_of_le (Nat.add_lt_add h h') (by rw [← Nat.mul_two]; exact Nat.mul_le_mul_left _ (by decide))
theorem cross_lt {p q : Rat} {k j : Nat} (hp : Bq p k) (hq : Bq q j) : (p.num * (q.den : Int)).natAbs < 4294967296 ^ (k + j) ∧ (q.num * (p.den : Int)).natAbs < 4294967296 ^ (k + j) ∧ p.den * q.den < 4294967296 ^ (k + j) := by
 rw [Int.natAbs_mul, Int.natAbs_mul, Nat.pow_add, Int.natAbs_natCast, Int.natAbs_natCast]
 exact ⟨Nat.mul_lt_mul'' hp.num hq.den, by rw [Nat.mul_comm (4294967296 ^ k)]; exact Nat.mul_lt_mul'' hq.num hp.den, Nat.mul_lt_mul'' hp.den hq.den⟩
instance bq_add {p q : Rat} {k j : Nat} [hp : Bq p k] [hq : Bq q j] : Bq (p + q) (k + j + 1) := by
 obtain ⟨h1, h2, h3⟩ := cross_lt hp hq
 rw [Rat.add_def']
 exact bq_mkRat (Nat.lt_of_le_of_lt (Int.natAbs_add_le _ _) (dbl_lt h1 h2)) (Nat.lt_of_lt_of_le h3 (Nat.pow_le_pow_right (by decide) (by omega))) (by omega)
instance bq_sub {p q : Rat} {k j : Nat} [hp : Bq p k] [hq : Bq q j] : Bq (p - q) (k + j + 1) := by
 obtain ⟨h1, h2, h3⟩ := cross_lt hp hq
 rw [Rat.sub_def']
 exact bq_mkRat (Nat.lt_of_le_of_lt (Int.natAbs_sub_le _ _) (dbl_lt h1 h2)) (Nat.lt_of_lt_of_le h3 (Nat.pow_le_pow_right (by decide) (by omega))) (by omega)
instance bq_mul {p q : Rat} {k j : Nat} [hp : Bq p k] [hq : Bq q j] : Bq (p * q) (k + j) := by
 rw [Rat.mul_def']
 exact bq_mkRat (by rw [Int.natAbs_mul, Nat.pow_add]; exact Nat.mul_lt_mul'' hp.num hq.num) (cross_lt hp hq).2.2 (by have := hp.pos; omega)
instance bq_neg {q : Rat} {k : Nat} [h : Bq q k] : Bq (-q) k := ⟨by rw [Rat.neg_num, Int.natAbs_neg]; exact h.num, h.den⟩
instance bq_zero : Bq 0 1 := ⟨by decide, by decide⟩
instance bq_one : Bq 1 1 := ⟨by decide, by decide⟩
theorem dig_one : dig 1 = [1] := by rw [dig_pos (by decide), show 1 / 4294967296 = 0 from rfl, dig_zero]
theorem canQ_mk {z : Int} {d : Nat} (hd : d ≠ 0) : canQ (mkRat z d) = [boolS (decide (z < 0)), natS (dig (z.natAbs / Nat.gcd z.natAbs d)), natS (dig (d / Nat.gcd z.natAbs d))] := by
 have h1 := mkRat_abs (b := decide (z < 0)) (a := z.natAbs) hd
 have h2 := mkRat_den (b := decide (z < 0)) (a := z.natAbs) hd
 have h3 := mkRat_neg (b := decide (z < 0)) (a := z.natAbs) hd
 rw [sgn_self] at h1 h2 h3
 have h4 : decide ((mkRat z d).num < 0) = decide (z < 0) := by
  rw [h3]; by_cases h : z < 0
  ·rw [decide_eq_true h, Bool.true_and]; exact decide_eq_true (by omega)
  ·rw [decide_eq_false h, Bool.false_and]
 show [boolS (decide ((mkRat z d).num < 0)), natS (dig (mkRat z d).num.natAbs), natS (dig (mkRat z d).den)] = _
 rw [h4, h1, h2]
theorem isQ_mk {z : Int} {d k : Nat} {q : Rat} (hz : z.natAbs < 4294967296 ^ k) (hd : d < 4294967296 ^ k) (hk : 0 < k) (hq : mkRat z d = q) : IsQ (decide (z < 0)) (dig z.natAbs) (dig d) q k :=
 ⟨lim_dig _, lim_dig _, by rw [val_dig, val_dig, sgn_self, hq], dig_length_le hz, dig_length_le hd, hk⟩
abbrev qc (p : Bool × List Nat × List Nat) : List SV := [boolS p.1, natS p.2.1, natS p.2.2]
def qv (p : Bool × List Nat × List Nat) : Rat := mkRat (sgn p.1 (Num.val p.2.1)) (Num.val p.2.2)
def qsz (p : Bool × List Nat × List Nat) : Nat := max p.2.1.length p.2.2.length + 1
theorem isQ_of {b : Bool} {l d : List Nat} (h : Lim l) (h' : Lim d) : IsQ b l d (qv (b, l, d)) (qsz (b, l, d)) := ⟨h, h', rfl, by unfold qsz; simp only; omega, by unfold qsz; simp only; omega, by unfold qsz; omega⟩
def sqs (xs : List (Bool × List Nat × List Nat)) (i : Nat) : Nat := ((xs.take i).map fun p => qsz p + 1).sum
theorem sqs_succ {xs : List (Bool × List Nat × List Nat)} {i : Nat} {p : Bool × List Nat × List Nat} (h : xs[i]? = some p) : sqs xs (i + 1) = sqs xs i + (qsz p + 1) := by
 unfold sqs; exact sum_take (fun p : Bool × List Nat × List Nat => qsz p + 1) h
theorem sqs_le (xs : List (Bool × List Nat × List Nat)) (i : Nat) : sqs xs i ≤ sqs xs xs.length := by
 have := sum_take_le (fun p : Bool × List Nat × List Nat => qsz p + 1) xs i
 unfold sqs; rw [List.take_length]; exact this
def allQ (xs : List (Bool × List Nat × List Nat)) : List (List SV) := xs.map fun p => [ptrS (canQ (qv p))]
theorem allQ_length {xs : List (Bool × List Nat × List Nat)} : (allQ xs).length = xs.length := by simp [allQ]
theorem allQ_inv {xs : List (Bool × List Nat × List Nat)} {i : Nat} {ss : List SV} (h : (allQ xs)[i]? = some ss) : ∃ p, xs[i]? = some p ∧ ss = [ptrS (canQ (qv p))] := by
 simp only [allQ, List.getElem?_map, Option.map_eq_some_iff] at h
 obtain ⟨p, h1, h2⟩ := h; exact ⟨p, h1, h2.symm⟩
theorem allQ_ss {xs : List (Bool × List Nat × List Nat)} {ss : List SV} (h : ss ∈ allQ xs) : ss.length = 1 := by
 obtain ⟨i, _, rfl⟩ := List.mem_map.1 h; rfl
theorem cmp_sign {p q : Rat} : (p.num * (q.den : Int) - q.num * (p.den : Int)).sign = tri p q := by
 unfold tri
 by_cases h1 : p < q
 ·rw [if_pos h1]; have := (Rat.lt_iff p q).1 h1; exact Int.sign_eq_neg_one_of_neg (by omega)
 ·rw [if_neg h1]
  by_cases h2 : q < p
  ·rw [if_pos h2]; have := (Rat.lt_iff q p).1 h2; exact Int.sign_eq_one_of_pos (by omega)
  ·rw [if_neg h2]
   have h3 := mt (Rat.lt_iff p q).2 h1
   have h4 := mt (Rat.lt_iff q p).2 h2
   rw [show p.num * (q.den : Int) - q.num * (p.den : Int) = 0 by omega]; rfl
theorem qwhole_spec {l : List Nat} : PSpec Tryz.prog G 142 [natS l] (aggS [boolS false, natS l]) := by
 refine zs Tryz.func142 ?_;refine zr ?_;refine zzv fun b2 => ?_;refine zx ?_;(iterate 2 refine zz ?_);refine zw ?_;refine zzn ?_;refine T_ret ?_
 exact ⟨_, [], .one (.agg 0 inferInstance rfl rfl rfl rfl), List.nil_sublist _, rfl, rfl⟩
theorem qOf_spec {n : Int} {q : Rat} (h1 : -9223372036854775808 ≤ n) (h2 : n ≤ 9223372036854775807) (hq : (n : Rat) = q := by rfl) : PSpec Tryz.prog G 52 [intS .i64 n] (aggS (canQ q)) := by
 refine zs Tryz.func52 ?_;refine zr ?_;refine zzv fun b2 => ?_;refine zx ?_;refine zz ?_;refine zf (zOf_spec h1 h2) ?_;refine zo (ok_buildNat [1] rfl rfl (by decide) rfl (by simp) rfl rfl rfl) ?_;refine zz ?_;refine zw ?_;refine zzn ?_;refine T_ret ?_
 exact ⟨_, [], .one (.agg 0 inferInstance rfl rfl rfl rfl), List.nil_sublist _, by rw [← hq]; show _ = aggS [boolS (decide (n < 0)), natS (dig n.natAbs), natS (dig 1)]; rw [dig_one]; rfl, rfl⟩
theorem qnorm_spec [Tab G] {b : Bool} {l d : List Nat} {q : Rat} {k bn : Nat} [h : IsQ b l d q k] (hs : 2 * k + 11000 ≤ cap := by decide) : CallSpec Tryz.prog G 144 [eqS (.pointer (some ⟨bn, 0, none⟩))] [⟨some bn, 127, [boolS b, natS l, natS d], 0⟩] (fun s H' => s = boolS (decide (val d ≠ 0)) ∧ H' = [⟨some bn, 127, canQ q, 0⟩]) := by
 have hlen := h.len
 have hlend := h.lend
 have hv := h.val
 have i1 : IsNat d (val d) := isNat_of h.limd
 have i2 : IsZ b l (sgn b (val l)) k := ⟨h.lim, rfl, hlen⟩
 have hz := i2.bz.len
 obtain ⟨z, hze⟩ : ∃ z, z = sgn b (val l) := ⟨_, rfl⟩
 rw [← hze] at hv hz i2
 refine zs Tryz.func144 ?_;refine zr ?_;refine zz ?_;refine zzn ?_;refine T_seq ?_;refine zr ?_;(iterate 5 refine zz ?_);refine zo (ok_call rfl rfl (trim_spec (by omega))) ?_;(iterate 2 refine zz ?_);refine zzn ?_;refine zzc (fun h10 => ?_) fun h10 => ?_
 ·have k10 := beq_iff_eq.1 h10
  have hd0 : val d = 0 := dig_len_zero.1 (by omega)
  rw [hd0, Rat.mkRat_zero] at hv
  refine zr ?_;refine zz ?_;refine zo (ok_call rfl rfl (qOf_spec (n := 0) (q := q) (by decide) (by decide) (by rw [← hv]; rfl))) ?_;(iterate 2 refine zz ?_);refine zw ?_;refine zx ?_;refine zz ?_;refine zzn ?_;refine T_ret ?_
  exact ⟨_, [_], .one (.tmp rfl), List.Sublist.refl _, congrArg boolS (decide_eq_false (by simp [hd0])).symm, rfl⟩
 ·have k10 := beq_eq_false_iff_ne.1 h10
  have hd0 : val d ≠ 0 := fun h0 => k10 (by rw [h0, dig_zero]; rfl)
  refine T_skip ?_;refine zr ?_;(iterate 6 refine zz ?_);refine zo (ok_call rfl rfl (zNorm_spec (by omega))) ?_;(iterate 3 refine zz ?_);refine zw ?_;refine zzn ?_;refine T_drawES 21 _ (by kernel_rfl) rfl (.cons _ .slnil) ?_;refine RunE.one (ok_move rfl rfl) rfl rfl rfl (by kernel_rfl) ?_;refine RunE.lat (ok_move rfl rfl) rfl rfl rfl ?_;refine RunE.one (ok_move rfl rfl) rfl rfl rfl (by kernel_rfl) ?_;refine RunE.one (ok_nilCheck_eq rfl rfl) rfl rfl rfl (by kernel_rfl) ?_;(iterate 3 refine RunE.one (ok_fieldAddr_eq rfl rfl rfl) rfl rfl rfl (by kernel_rfl) ?_);refine RunE.one (ok_load_own 0 rfl rfl rfl rfl) rfl rfl rfl (by kernel_rfl) ?_;refine RunE.one (ok_move rfl rfl) rfl rfl rfl (by kernel_rfl) ?_;refine RunE.one (ok_nilCheck_eq rfl rfl) rfl rfl rfl (by kernel_rfl) ?_;(iterate 2 refine RunE.one (ok_fieldAddr_eq rfl rfl rfl) rfl rfl rfl (by kernel_rfl) ?_);refine RunE.one (ok_load_own 0 rfl rfl rfl rfl) rfl rfl rfl (by kernel_rfl) ?_;refine RunE.one (ok_call rfl rfl (reduce_spec (by omega))) rfl rfl rfl (by kernel_rfl) ?_;refine RunE.one (ok_move rfl rfl) rfl rfl rfl (by kernel_rfl) ?_;refine RunE.one (ok_extract rfl rfl rfl) rfl rfl rfl (by kernel_rfl) ?_;refine RunE.lat (ok_extract rfl rfl rfl) rfl rfl rfl ?_;refine RunE.one (ok_nilCheck_eq rfl rfl) rfl rfl rfl (by kernel_rfl) ?_;(iterate 3 refine RunE.one (ok_fieldAddr_eq rfl rfl rfl) rfl rfl rfl (by kernel_rfl) ?_);refine RunE.nil ?_;refine EffAt.store 0 rfl rfl rfl rfl rfl rfl rfl rfl (.cons _ .slnil) ?_;(iterate 3 refine zz ?_);refine zw ?_;refine zx ?_;refine zz ?_;refine zzn ?_;refine T_ret ?_
  exact ⟨_, [_], .one (.tmp rfl), List.Sublist.refl _, congrArg boolS (decide_eq_true hd0).symm, by rw [← hv, canQ_mk hd0]; rfl⟩
theorem qof_own [Tab G] {b : Bool} {l d : List Nat} {q : Rat} {k : Nat} [h : IsQ b l d q k] (hs : 2 * k + 11000 ≤ cap := by decide) : CallSpec Tryz.prog G 109 [aggS [boolS b, natS l, natS d]] [] (fun s H' => ∃ bn, s = eqS (.pointer (some ⟨bn, 0, none⟩)) ∧ H' = [⟨some bn, 127, canQ q, 0⟩]) := by
 refine zs Tryz.func109 ?_;refine zr ?_;(iterate 2 refine zz ?_);refine zx ?_;(iterate 2 refine zz ?_);refine Run.box rfl rfl rfl rfl rfl rfl fun bn => ?_;refine zz ?_;refine zx ?_;refine zz ?_;refine Run.call1 0 rfl rfl rfl rfl (qnorm_spec hs) rfl rfl rfl ?_
 rintro s1 H1 ⟨rfl, rfl⟩
 refine zx ?_;(iterate 2 refine zz ?_);refine zzn ?_;refine T_ret ?_
 exact ⟨_, [_], .one (.tmp rfl), List.Sublist.refl _, bn, rfl, rfl⟩
theorem qof_spec [Tab G] {b : Bool} {l d : List Nat} {q : Rat} {k : Nat} [h : IsQ b l d q k] (hs : 2 * k + 11000 ≤ cap := by decide) : PSpec Tryz.prog G 109 [aggS [boolS b, natS l, natS d]] (ptrS (canQ q)) := frz_spec (qof_own hs)
theorem qNorm_spec [Tab G] {b : Bool} {l d : List Nat} {q : Rat} {k : Nat} [h : IsQ b l d q k] (hs : 2 * k + 11000 ≤ cap := by decide) : PSpec Tryz.prog G 177 [aggS [boolS b, natS l, natS d]] (aggS (canQ q)) := by
 refine zs Tryz.func177 ?_;refine zr ?_;refine zz ?_;refine zzv fun b2 => ?_;refine zx ?_;refine zz ?_;refine zf (qof_spec hs) ?_;(iterate 3 refine zz ?_);refine zw ?_;refine zzn ?_;refine T_ret ?_
 exact ⟨_, [], .one (.agg 0 inferInstance rfl rfl rfl rfl), List.nil_sublist _, rfl, rfl⟩
theorem qneg_spec [Tab G] {b : Bool} {l d : List Nat} {q : Rat} {k : Nat} [h : IsQ b l d q k] (hs : 2 * k + 11000 ≤ cap := by decide) : PSpec Tryz.prog G 145 [aggS [boolS b, natS l, natS d]] (aggS (canQ (-q))) := by
 have i1 := h.bq.bz
 refine zs Tryz.func145 ?_;refine zr ?_;refine zz ?_;refine zzv fun b2 => ?_;refine zx ?_;refine zz ?_;refine Run.call0 rfl rfl rfl (qof_own hs) rfl rfl rfl ?_
 rintro s1 H1 ⟨bn, rfl, rfl⟩
 refine zz ?_;refine zx ?_;(iterate 6 refine zz ?_);refine zo (ok_call rfl rfl (zneg_spec (by omega))) ?_;(iterate 3 refine zz ?_);refine zw ?_;refine zx ?_;(iterate 4 refine zz ?_);refine zw ?_;refine zzn ?_;refine T_ret ?_
 exact ⟨_, [], .one (.agg 1 inferInstance rfl rfl rfl rfl), List.nil_sublist _, rfl, rfl⟩
theorem qcmp_spec [Tab G] {b c : Bool} {l d m e : List Nat} {p q : Rat} {k j : Nat} [hx : IsQ b l d p k] [hy : IsQ c m e q j] (hs : 100 * (k + j) + 20000 ≤ cap := by decide) : PSpec Tryz.prog G 132 [aggS [boolS b, natS l, natS d], aggS [boolS c, natS m, natS e]] (intS .i64 (tri p q)) := by
 have hxb := hx.bq
 have hyb := hy.bq
 have i1 := hxb.bz
 have i2 := hxb.bd
 have i3 := hyb.bz
 have i4 := hyb.bd
 refine zs Tryz.func132 ?_;refine zr ?_;(iterate 3 refine zz ?_);refine zzn ?_;refine T_drawS 6 (by kernel_rfl) ?_;refine zz ?_;refine zo (ok_call rfl rfl (qof_spec (by omega))) ?_;refine zz ?_;refine zo (ok_call rfl rfl (qof_spec (by omega))) ?_;(iterate 2 refine zz ?_);(iterate 2 refine zzn ?_);refine T_drawS 28 (by kernel_rfl) ?_;(iterate 10 refine zz ?_);refine zf qwhole_spec ?_;refine zo (ok_buildSlice rfl rfl (by decide) rfl (by simp) rfl rfl) ?_;refine zo (ok_call rfl rfl (zmul2_spec (by omega))) ?_;(iterate 10 refine zz ?_);refine zf qwhole_spec ?_;refine zo (ok_buildSlice rfl rfl (by decide) rfl (by simp) rfl rfl) ?_;refine zo (ok_call rfl rfl (zmul2_spec (by omega))) ?_;refine zo ((ok_call rfl rfl (zcmp_spec (by omega))).sub (int_eq cmp_sign)) ?_;refine zz ?_;(iterate 2 refine zzn ?_);refine T_ret ?_
 exact ⟨_, [], .one (.tmp rfl), List.nil_sublist _, rfl, rfl⟩
theorem qnadd_spec [Tab G] {p q : Rat} {bn k j : Nat} [hx : Bq p k] [hy : Bq q j] (hs : 100 * (k + j) + 15000 ≤ cap := by decide) : CallSpec Tryz.prog G 99 [eqS (.pointer (some ⟨bn, 0, none⟩)), ptrS (canQ q)] [⟨some bn, 127, canQ p, 0⟩] (fun s H' => s = tupS [] ∧ H' = [⟨some bn, 127, canQ (p + q), 0⟩]) := by
 have i1 := hx.bz
 have i2 := hx.bd
 have i3 := hy.bz
 have i4 := hy.bd
 obtain ⟨g1, g2, g3⟩ := cross_lt hx hy
 have i5 : IsQ (decide (p.num * (q.den : Int) + q.num * (p.den : Int) < 0)) (dig (p.num * (q.den : Int) + q.num * (p.den : Int)).natAbs) (dig (p.den * q.den)) (p + q) (k + j + 1) := isQ_mk (Nat.lt_of_le_of_lt (Int.natAbs_add_le _ _) (dbl_lt g1 g2)) (Nat.lt_of_lt_of_le g3 (Nat.pow_le_pow_right (by decide) (by omega))) (by omega) (Rat.add_def' p q).symm
 refine zs Tryz.func99 ?_;refine T_drawS 32 (by kernel_rfl) ?_;(iterate 11 refine zz ?_);refine zf qwhole_spec ?_;refine zo (ok_buildSlice rfl rfl (by decide) rfl (by simp) rfl rfl) ?_;refine zo (ok_call rfl rfl (zmul2_spec (by omega))) ?_;(iterate 10 refine zz ?_);refine zf qwhole_spec ?_;refine zo (ok_buildSlice rfl rfl (by decide) rfl (by simp) rfl rfl) ?_;refine zo (ok_call rfl rfl (zmul2_spec (by omega))) ?_;refine zo (ok_buildSlice rfl rfl (by decide) rfl (by simp) rfl rfl) ?_;refine zo (ok_call rfl rfl (zadd2_spec (by omega))) ?_;(iterate 3 refine zz ?_);refine zzn ?_;refine zw ?_;refine zzn ?_;refine T_drawS 15 (by kernel_rfl) ?_;(iterate 11 refine zz ?_);refine zo (ok_call rfl rfl (mul_spec (by omega))) ?_;(iterate 3 refine zz ?_);refine zzn ?_;refine zw ?_;refine zzn ?_;refine T_region ?_;refine zz ?_;refine Run.call1 0 rfl rfl rfl rfl (qnorm_spec (by omega)) rfl rfl rfl ?_
 rintro s1 H1 ⟨rfl, rfl⟩
 refine zzn ?_
 exact ⟨_, [_], .none, List.Sublist.refl _, rfl, rfl⟩
theorem qnmul_spec [Tab G] {p q : Rat} {bn k j : Nat} [hx : Bq p k] [hy : Bq q j] (hs : 100 * (k + j) + 15000 ≤ cap := by decide) : CallSpec Tryz.prog G 146 [eqS (.pointer (some ⟨bn, 0, none⟩)), ptrS (canQ q)] [⟨some bn, 127, canQ p, 0⟩] (fun s H' => s = tupS [] ∧ H' = [⟨some bn, 127, canQ (p * q), 0⟩]) := by
 have i1 := hx.bz
 have i2 := hx.bd
 have i3 := hy.bz
 have i4 := hy.bd
 have i5 : IsQ (decide (p.num * q.num < 0)) (dig (p.num * q.num).natAbs) (dig (p.den * q.den)) (p * q) (k + j) := isQ_mk (by rw [Int.natAbs_mul, Nat.pow_add]; exact Nat.mul_lt_mul'' hx.num hy.num) (cross_lt hx hy).2.2 (by have := hx.pos; omega) (Rat.mul_def' p q).symm
 refine zs Tryz.func146 ?_;refine T_drawES 28 _ (by kernel_rfl) rfl (.cons _ .slnil) ?_;refine RunE.one (ok_move rfl rfl) rfl rfl rfl (by kernel_rfl) ?_;refine RunE.lat (ok_move rfl rfl) rfl rfl rfl ?_;refine RunE.one (ok_move rfl rfl) rfl rfl rfl (by kernel_rfl) ?_;refine RunE.one (ok_nilCheck_eq rfl rfl) rfl rfl rfl (by kernel_rfl) ?_;(iterate 2 refine RunE.one (ok_fieldAddr_eq rfl rfl rfl) rfl rfl rfl (by kernel_rfl) ?_);refine RunE.one (ok_load_own_agg 0 rfl rfl rfl rfl rfl) rfl rfl rfl (by kernel_rfl) ?_;refine RunE.one (ok_move rfl rfl) rfl rfl rfl (by kernel_rfl) ?_;refine RunE.one (ok_nilCheck rfl rfl) rfl rfl rfl (by kernel_rfl) ?_;(iterate 2 refine RunE.one (ok_fieldAddr rfl rfl rfl) rfl rfl rfl (by kernel_rfl) ?_);refine RunE.one (ok_load_agg rfl rfl rfl rfl) rfl rfl rfl (by kernel_rfl) ?_;refine RunE.one (ok_buildSlice rfl rfl (by decide) rfl (by simp) rfl rfl) rfl rfl rfl (by kernel_rfl) ?_;refine RunE.one (ok_call rfl rfl (zmul2_spec (by omega))) rfl rfl rfl (by kernel_rfl) ?_;refine RunE.one (ok_move rfl rfl) rfl rfl rfl (by kernel_rfl) ?_;refine RunE.one (ok_nilCheck_eq rfl rfl) rfl rfl rfl (by kernel_rfl) ?_;(iterate 2 refine RunE.one (ok_fieldAddr_eq rfl rfl rfl) rfl rfl rfl (by kernel_rfl) ?_);refine RunE.one (ok_load_own 0 rfl rfl rfl rfl) rfl rfl rfl (by kernel_rfl) ?_;refine RunE.one (ok_move rfl rfl) rfl rfl rfl (by kernel_rfl) ?_;refine RunE.one (ok_nilCheck rfl rfl) rfl rfl rfl (by kernel_rfl) ?_;(iterate 2 refine RunE.one (ok_fieldAddr rfl rfl rfl) rfl rfl rfl (by kernel_rfl) ?_);refine RunE.one (ok_load rfl rfl) rfl rfl rfl (by kernel_rfl) ?_;refine RunE.one (ok_call rfl rfl (mul_spec (by omega))) rfl rfl rfl (by kernel_rfl) ?_;refine RunE.one (ok_nilCheck_eq rfl rfl) rfl rfl rfl (by kernel_rfl) ?_;(iterate 2 refine RunE.one (ok_fieldAddr_eq rfl rfl rfl) rfl rfl rfl (by kernel_rfl) ?_);refine RunE.nil ?_;refine EffAt.store 0 rfl rfl rfl rfl rfl rfl rfl rfl (.cons _ .slnil) ?_;(iterate 3 refine zz ?_);refine zw ?_;refine zzn ?_;refine T_region ?_;refine zz ?_;refine Run.call1 0 rfl rfl rfl rfl (qnorm_spec (by omega)) rfl rfl rfl ?_
 rintro s1 H1 ⟨rfl, rfl⟩
 refine zzn ?_
 exact ⟨_, [_], .none, List.Sublist.refl _, rfl, rfl⟩
theorem qall1_spec [Tab G] {xs : List (Bool × List Nat × List Nat)} (hl : ∀ p ∈ xs, Lim p.2.1 ∧ Lim p.2.2) (hs : ∀ p ∈ xs, 2 * qsz p + 11000 ≤ cap) : IterSpec Tryz.prog G 139 [ptrS [slS 3 qc xs]] (allQ xs) := by
 refine iter_spec Tryz.func139 rfl rfl rfl rfl fun l E hy => ?_;refine zr ?_;(iterate 3 refine zz ?_);refine zzn ?_;refine T_block ?_;refine T_len 5 rfl fun la => ?_
 unfold big at la
 refine T_loop (γ := Nat) (fun g => ⟨_, [(7, intS .i64 (g : Nat)), (6, intS .i64 xs.length), (5, slS 3 qc xs), (0, yieldS l), (1, ptrS [slS 3 qc xs])], [], [], (g, false)⟩) (fun g => g ≤ xs.length) (fun g => xs.length - g) 0 (Nat.zero_le _) (ent_g zk) ?_
 intro g hg
 refine zr ?_;refine zz ?_;refine zzn ?_;refine T_seq ?_;refine zzc (fun h8 => ?_) fun h8 => ?_
 ·have k8 := of_decide_eq_true h8
  obtain ⟨⟨b, ml, md⟩, hp⟩ : ∃ p, xs[g]? = some p := ⟨_, List.getElem?_eq_getElem (by omega)⟩
  have hpm : (b, ml, md) ∈ xs := List.mem_of_getElem? hp
  have i1 : IsQ b ml md (qv (b, ml, md)) (qsz (b, ml, md)) := isQ_of (hl _ hpm).1 (hl _ hpm).2
  have hsl := hs _ hpm
  refine T_skip ?_;refine T_seq ?_;refine T_block ?_;refine zr ?_;refine zo (ok_indexAddr rfl rfl rfl (by omega) (y := (b, ml, md)) (hp)) ?_;refine zo ((show OpOK _ _ _ _ _ (aggS [boolS b, natS ml, natS md]) from ok_load_agg rfl rfl rfl rfl)) ?_;refine zzv fun b4 => ?_;refine zw ?_;refine zx ?_;refine zz ?_;refine zo ((show OpOK _ _ _ _ _ (aggS [boolS b, natS ml, natS md]) from ok_load_own_agg 0 rfl rfl rfl rfl rfl)) ?_;refine zf (qof_spec hsl) ?_;refine Run.yield rfl hy rfl rfl rfl (by simp only [allQ, List.getElem?_map, hp]; rfl) (subL_refl _) rfl rfl rfl fun y => ?_;refine zz ?_;refine zzn ?_;refine zzc (fun h15 => ?_) fun h15 => ?_
  ·refine T_ret ?_
   exact ⟨.inl rfl, .inr h15⟩
  ·refine T_skip ?_;refine T_ghost (ghost_drop (h' := []) (List.nil_sublist _)) ?_;refine T_region ?_;refine za ((g + 1 : Nat) : Int) ?_;refine zz ?_;refine zzn ?_
   exact ⟨g + 1, (by omega : g + 1 ≤ xs.length), by omega, rfl, subG_cons rfl (subG_cons rfl (subG_cons rfl (subG_cons rfl (subG_cons rfl (trivial))))), subH_refl _, rfl, by simp only; rw [h15]⟩
 ·have k8 := of_decide_eq_false h8
  refine T_exit ?_
  exact ⟨.inr rfl, .inl (by rw [allQ_length, show g = xs.length by omega])⟩
theorem qall_spec {xs : List (Bool × List Nat × List Nat)} : PSpec Tryz.prog G 98 [slS 3 qc xs] (fnS 139 [ptrS [slS 3 qc xs]]) := by
 refine zs Tryz.func98 ?_;refine zr ?_;(iterate 2 refine zz ?_);refine zx ?_;(iterate 2 refine zz ?_);refine zzn ?_;refine T_ret ?_
 exact ⟨_, [], .one (.tmp rfl), List.nil_sublist _, rfl, rfl⟩
theorem qadd_spec [Tab G] {xs : List (Bool × List Nat × List Nat)} (hl : ∀ p ∈ xs, Lim p.2.1 ∧ Lim p.2.2) (hs : 100 * sqs xs xs.length + 18000 ≤ cap + 400) : PSpec Tryz.prog G 53 [slS 3 qc xs] (aggS (canQ (xs.foldl (fun z p => z + qv p) 0))) := by
 unfold cap at hs
 have hps : ∀ p ∈ xs, 2 * qsz p + 11000 ≤ cap := fun p hp => by
  obtain ⟨i, hi⟩ := List.getElem?_of_mem hp
  have h1 := sqs_succ hi
  have h2 := sqs_le xs (i + 1)
  unfold cap; omega
 refine zs Tryz.func53 ?_;refine zr ?_;refine zzv fun b2 => ?_;refine zx ?_;refine zo (ok_call rfl rfl (qOf_spec (n := 0) (q := 0) (by decide) (by decide))) ?_;refine zz ?_;refine Run.box rfl rfl rfl rfl rfl rfl fun bn => ?_;refine zzv fun b3 => ?_;refine zw ?_;refine zzn ?_;refine T_seq ?_;refine zr ?_;refine zz ?_;refine zf qall_spec ?_;refine zzn ?_;refine T_block ?_
 refine T_rng rfl rfl (qall1_spec hl hps) (fun ss h => allQ_ss h) (by decide) rfl
   (fun k h i => i = (0, false) ∧ k ≤ xs.length ∧ Bq ((xs.take k).foldl (fun z p => z + qv p) 0) (sqs xs k + 1) ∧ h = [⟨some b3, 125, [eqS (.pointer (some ⟨bn, 0, none⟩))], 0⟩, ⟨some bn, 127, canQ ((xs.take k).foldl (fun z p => z + qv p) 0), 0⟩, ⟨some b2, 28, [eqS (.bool false), eqS (.slice none 0 0), eqS (.slice none 0 0)], 0⟩])
   (fun _ _ _ => False) ⟨rfl, Nat.zero_le _, by rw [List.take_zero]; exact bq_le (l := sqs xs 0 + 1) (show Bq 0 1 from inferInstance) (by omega), rfl⟩ ?_ ?_ ?_
 ·rintro l k ss h i hk ⟨rfl, _, hbz, rfl⟩
  obtain ⟨p, hp, rfl⟩ := allQ_inv hk
  have hlt := lt_of_get hp
  obtain ⟨acc, hacc⟩ : ∃ acc, acc = (xs.take k).foldl (fun z p => z + qv p) 0 := ⟨_, rfl⟩
  have hfs := foldl_take (fun z p => z + qv p) 0 hp
  have hs1 := sqs_succ hp
  have hs2 := sqs_le xs (k + 1)
  rw [← hacc] at hbz hfs ⊢
  have hpm := List.mem_of_getElem? hp
  have i2 : Bq (qv p) (qsz p) := (isQ_of (b := p.1) (hl p hpm).1 (hl p hpm).2).bq
  refine T_region ?_;refine zz ?_;refine zzn ?_
  refine ⟨rfl, ?_⟩
  refine T_block ?_;refine T_region ?_;(iterate 2 refine zz ?_);refine Run.call1 1 rfl rfl rfl rfl (qnadd_spec (by unfold cap; omega)) rfl rfl rfl ?_
  rintro s1 H1 ⟨rfl, rfl⟩
  refine zzn ?_
  refine ⟨rfl, by omega, ?_, by rw [hfs]; rfl⟩
  rw [hfs, hs1]; exact bq_le (bq_add (hp := hbz) (hq := i2)) (by omega)
 ·rintro h i D ⟨rfl, _, hbz, rfl⟩
  rw [allQ_length, List.take_length]
  refine zr ?_;(iterate 4 refine zz ?_);refine zw ?_;refine zzn ?_;refine T_ret ?_
  exact ⟨_, [], .one (.agg 2 inferInstance rfl rfl rfl rfl), List.nil_sublist _, rfl, rfl⟩
 ·intro h i D e c hc hInv; exact hInv.elim
theorem qadd2_spec [Tab G] {b c : Bool} {l d m e : List Nat} {p q : Rat} {k j : Nat} [hx : IsQ b l d p k] [hy : IsQ c m e q j] (hs : 100 * (k + j) + 20000 ≤ cap := by decide) : PSpec Tryz.prog G 53 [slS 3 id [[boolS b, natS l, natS d], [boolS c, natS m, natS e]]] (aggS (canQ (p + q))) := by
 have h := qadd_spec (G := G) (xs := [(b, l, d), (c, m, e)]) (by intro x hp; rcases List.mem_cons.1 hp with rfl | hp; exact ⟨hx.lim, hx.limd⟩; rw [List.mem_singleton.1 hp]; exact ⟨hy.lim, hy.limd⟩) (by have := hx.len; have := hy.len; have := hx.lend; have := hy.lend; have := hx.pos; have := hy.pos; simp only [sqs, qsz, List.length_cons, List.length_nil, List.take, List.map, List.sum_cons, List.sum_nil]; omega)
 have ee : [(b, l, d), (c, m, e)].foldl (fun z p => z + qv p) 0 = p + q := by show 0 + mkRat (sgn b (val l)) (val d) + mkRat (sgn c (val m)) (val e) = _; rw [hx.val, hy.val, Rat.zero_add]
 rw [ee] at h
 exact h.args ⟨fun I v hv => sl_pair [(b, l, d), (c, m, e)] hv, trivial⟩
theorem qmul_spec [Tab G] {xs : List (Bool × List Nat × List Nat)} (hl : ∀ p ∈ xs, Lim p.2.1 ∧ Lim p.2.2) (hs : 100 * sqs xs xs.length + 18000 ≤ cap + 400) : PSpec Tryz.prog G 101 [slS 3 qc xs] (aggS (canQ (xs.foldl (fun z p => z * qv p) 1))) := by
 unfold cap at hs
 have hps : ∀ p ∈ xs, 2 * qsz p + 11000 ≤ cap := fun p hp => by
  obtain ⟨i, hi⟩ := List.getElem?_of_mem hp
  have h1 := sqs_succ hi
  have h2 := sqs_le xs (i + 1)
  unfold cap; omega
 refine zs Tryz.func101 ?_;refine zr ?_;refine zzv fun b2 => ?_;refine zx ?_;refine zo (ok_call rfl rfl (qOf_spec (n := 1) (q := 1) (by decide) (by decide))) ?_;refine zz ?_;refine Run.box rfl rfl rfl rfl rfl rfl fun bn => ?_;refine zzv fun b3 => ?_;refine zw ?_;refine zzn ?_;refine T_seq ?_;refine zr ?_;refine zz ?_;refine zf qall_spec ?_;refine zzn ?_;refine T_block ?_
 refine T_rng rfl rfl (qall1_spec hl hps) (fun ss h => allQ_ss h) (by decide) rfl
   (fun k h i => i = (0, false) ∧ k ≤ xs.length ∧ Bq ((xs.take k).foldl (fun z p => z * qv p) 1) (sqs xs k + 1) ∧ h = [⟨some b3, 125, [eqS (.pointer (some ⟨bn, 0, none⟩))], 0⟩, ⟨some bn, 127, canQ ((xs.take k).foldl (fun z p => z * qv p) 1), 0⟩, ⟨some b2, 28, [eqS (.bool false), eqS (.slice none 0 0), eqS (.slice none 0 0)], 0⟩])
   (fun _ _ _ => False) ⟨rfl, Nat.zero_le _, by rw [List.take_zero]; exact bq_le (l := sqs xs 0 + 1) (show Bq 1 1 from inferInstance) (by omega), rfl⟩ ?_ ?_ ?_
 ·rintro l k ss h i hk ⟨rfl, _, hbz, rfl⟩
  obtain ⟨p, hp, rfl⟩ := allQ_inv hk
  have hlt := lt_of_get hp
  obtain ⟨acc, hacc⟩ : ∃ acc, acc = (xs.take k).foldl (fun z p => z * qv p) 1 := ⟨_, rfl⟩
  have hfs := foldl_take (fun z p => z * qv p) 1 hp
  have hs1 := sqs_succ hp
  have hs2 := sqs_le xs (k + 1)
  rw [← hacc] at hbz hfs ⊢
  have hpm := List.mem_of_getElem? hp
  have i2 : Bq (qv p) (qsz p) := (isQ_of (b := p.1) (hl p hpm).1 (hl p hpm).2).bq
  refine T_region ?_;refine zz ?_;refine zzn ?_
  refine ⟨rfl, ?_⟩
  refine T_block ?_;refine T_region ?_;(iterate 2 refine zz ?_);refine Run.call1 1 rfl rfl rfl rfl (qnmul_spec (by unfold cap; omega)) rfl rfl rfl ?_
  rintro s1 H1 ⟨rfl, rfl⟩
  refine zzn ?_
  refine ⟨rfl, by omega, ?_, by rw [hfs]; rfl⟩
  rw [hfs, hs1]; exact bq_le (bq_mul (hp := hbz) (hq := i2)) (by omega)
 ·rintro h i D ⟨rfl, _, hbz, rfl⟩
  rw [allQ_length, List.take_length]
  refine zr ?_;(iterate 4 refine zz ?_);refine zw ?_;refine zzn ?_;refine T_ret ?_
  exact ⟨_, [], .one (.agg 2 inferInstance rfl rfl rfl rfl), List.nil_sublist _, rfl, rfl⟩
 ·intro h i D e c hc hInv; exact hInv.elim
theorem qmul2_spec [Tab G] {b c : Bool} {l d m e : List Nat} {p q : Rat} {k j : Nat} [hx : IsQ b l d p k] [hy : IsQ c m e q j] (hs : 100 * (k + j) + 20000 ≤ cap := by decide) : PSpec Tryz.prog G 101 [slS 3 id [[boolS b, natS l, natS d], [boolS c, natS m, natS e]]] (aggS (canQ (p * q))) := by
 have h := qmul_spec (G := G) (xs := [(b, l, d), (c, m, e)]) (by intro x hp; rcases List.mem_cons.1 hp with rfl | hp; exact ⟨hx.lim, hx.limd⟩; rw [List.mem_singleton.1 hp]; exact ⟨hy.lim, hy.limd⟩) (by have := hx.len; have := hy.len; have := hx.lend; have := hy.lend; have := hx.pos; have := hy.pos; simp only [sqs, qsz, List.length_cons, List.length_nil, List.take, List.map, List.sum_cons, List.sum_nil]; omega)
 have ee : [(b, l, d), (c, m, e)].foldl (fun z p => z * qv p) 1 = p * q := by show 1 * mkRat (sgn b (val l)) (val d) * mkRat (sgn c (val m)) (val e) = _; rw [hx.val, hy.val, Rat.one_mul]
 rw [ee] at h
 exact h.args ⟨fun I v hv => sl_pair [(b, l, d), (c, m, e)] hv, trivial⟩
theorem qsub_spec [Tab G] {b c : Bool} {l d m e : List Nat} {p q : Rat} {k j : Nat} [hx : IsQ b l d p k] [hy : IsQ c m e q j] (hs : 100 * (k + j) + 20000 ≤ cap := by decide) : PSpec Tryz.prog G 100 [aggS [boolS b, natS l, natS d], aggS [boolS c, natS m, natS e]] (aggS (canQ (p - q))) := by
 have i1 := hx.bq
 have i2 := hy.bq
 refine zs Tryz.func100 ?_;refine zr ?_;(iterate 2 refine zz ?_);refine zzv fun b4 => ?_;refine zzn ?_;refine T_drawS 5 (by kernel_rfl) ?_;(iterate 2 refine zz ?_);refine zo (ok_call rfl rfl (qneg_spec (by omega))) ?_;refine zo (ok_buildSlice rfl rfl (by decide) rfl (by simp) rfl rfl) ?_;refine zo ((ok_call rfl rfl (qadd2_spec hs)).sub (show ∀ I v, (aggS (canQ (p + -q))).den I v → (aggS (canQ (p - q))).den I v from fun I v h => by rw [Rat.sub_eq_add_neg]; exact h)) ?_;refine zzn ?_;refine zw ?_;refine zzn ?_;refine T_ret ?_
 exact ⟨_, [], .one (.agg 0 inferInstance rfl rfl rfl rfl), List.nil_sublist _, rfl, rfl⟩
end Go.Proofs
