/- Points: straitref08; what the laws ask of sizes. -/
import Derived.Test.YtofplgefmjojjaaGreatDoorSnv
namespace Go.Proofs
open Go Go.Sv Num
variable {G : Imm}
abbrev psz (p : (Bool × List Nat × List Nat) × (Bool × List Nat × List Nat)) : Nat := max (max (max p.1.2.1.length p.1.2.2.length) p.2.2.1.length) p.2.2.2.length
instance bq_two : Bq 2 1 := ⟨by decide, by decide⟩
instance bq_three : Bq 3 1 := ⟨by decide, by decide⟩
instance bq_four : Bq 4 1 := ⟨by decide, by decide⟩
instance bq_seven : Bq 7 1 := ⟨by decide, by decide⟩
theorem rpOf_spec {n m : Int} {p q : Rat} (h1 : -9223372036854775808 ≤ n) (h2 : n ≤ 9223372036854775807) (h3 : -9223372036854775808 ≤ m) (h4 : m ≤ 9223372036854775807) (hp : (n : Rat) = p := by rfl) (hq : (m : Rat) = q := by rfl) : PSpec Tryz.prog G 71 [intS .i64 n, intS .i64 m] (aggS (canP p q)) := by
 refine zs Tryz.func71 ?_;refine zr ?_;refine zzv fun b4 => ?_;refine zx ?_;refine zz ?_;refine zf (rqOf_spec h1 h2 hp) ?_;refine zz ?_;refine zf (rqOf_spec h3 h4 hq) ?_;refine zz ?_;refine zw ?_;refine zzn ?_;refine T_ret ?_
 exact ⟨_, [], .one (.agg 0 inferInstance rfl rfl rfl rfl), List.nil_sublist _, rfl, rfl⟩
theorem rpAdd_spec {b1 c1 : Bool} {l1 d1 m1 e1 : List Nat} {x1 y1 : Rat} {k1 j1 : Nat} [hx1 : IsQ b1 l1 d1 x1 k1] [hy1 : IsQ c1 m1 e1 y1 j1] {b2 c2 : Bool} {l2 d2 m2 e2 : List Nat} {x2 y2 : Rat} {k2 j2 : Nat} [hx2 : IsQ b2 l2 d2 x2 k2] [hy2 : IsQ c2 m2 e2 y2 j2] (hs : 64 * (k1 + j1 + k2 + j2) + 5000 ≤ 131072 := by decide) : PSpec Tryz.prog G 15 [aggS [boolS b1, natS l1, natS d1, boolS c1, natS m1, natS e1], aggS [boolS b2, natS l2, natS d2, boolS c2, natS m2, natS e2]] (aggS (canP (x1 + x2) (y1 + y2))) := by
 refine zs Tryz.func15 ?_;refine zr ?_;(iterate 2 refine zz ?_);refine zzv fun b4 => ?_;refine zzn ?_;refine T_drawS 13 (by kernel_rfl) ?_;(iterate 4 refine zz ?_);refine zo (ok_buildSlice rfl rfl (by decide) rfl (by simp) rfl rfl) ?_;refine zo (ok_call rfl rfl (rqadd2_spec (by omega))) ?_;(iterate 4 refine zz ?_);refine zo (ok_buildSlice rfl rfl (by decide) rfl (by simp) rfl rfl) ?_;refine zo (ok_call rfl rfl (rqadd2_spec (by omega))) ?_;refine zz ?_;refine zzn ?_;refine zw ?_;refine zzn ?_;refine T_ret ?_
 exact ⟨_, [], .one (.agg 0 inferInstance rfl rfl rfl rfl), List.nil_sublist _, rfl, rfl⟩
theorem rpSub_spec {b1 c1 : Bool} {l1 d1 m1 e1 : List Nat} {x1 y1 : Rat} {k1 j1 : Nat} [hx1 : IsQ b1 l1 d1 x1 k1] [hy1 : IsQ c1 m1 e1 y1 j1] {b2 c2 : Bool} {l2 d2 m2 e2 : List Nat} {x2 y2 : Rat} {k2 j2 : Nat} [hx2 : IsQ b2 l2 d2 x2 k2] [hy2 : IsQ c2 m2 e2 y2 j2] (hs : 64 * (k1 + j1 + k2 + j2) + 5000 ≤ 131072 := by decide) : PSpec Tryz.prog G 42 [aggS [boolS b1, natS l1, natS d1, boolS c1, natS m1, natS e1], aggS [boolS b2, natS l2, natS d2, boolS c2, natS m2, natS e2]] (aggS (canP (x1 - x2) (y1 - y2))) := by
 refine zs Tryz.func42 ?_;refine zr ?_;(iterate 2 refine zz ?_);refine zzv fun b4 => ?_;refine zzn ?_;refine T_drawS 11 (by kernel_rfl) ?_;(iterate 4 refine zz ?_);refine zo (ok_call rfl rfl (rqsub_spec (by omega))) ?_;(iterate 4 refine zz ?_);refine zo (ok_call rfl rfl (rqsub_spec (by omega))) ?_;refine zz ?_;refine zzn ?_;refine zw ?_;refine zzn ?_;refine T_ret ?_
 exact ⟨_, [], .one (.agg 0 inferInstance rfl rfl rfl rfl), List.nil_sublist _, rfl, rfl⟩
theorem rpScale_spec {b1 c1 : Bool} {l1 d1 m1 e1 : List Nat} {x1 y1 : Rat} {k1 j1 : Nat} [hx1 : IsQ b1 l1 d1 x1 k1] [hy1 : IsQ c1 m1 e1 y1 j1] {bt : Bool} {lt dt : List Nat} {t : Rat} {kt : Nat} [ht : IsQ bt lt dt t kt] (hs : 64 * (k1 + j1 + 2 * kt) + 5000 ≤ 131072 := by decide) : PSpec Tryz.prog G 69 [aggS [boolS b1, natS l1, natS d1, boolS c1, natS m1, natS e1], aggS [boolS bt, natS lt, natS dt]] (aggS (canP (x1 * t) (y1 * t))) := by
 refine zs Tryz.func69 ?_;refine zr ?_;(iterate 2 refine zz ?_);refine zzv fun b4 => ?_;refine zzn ?_;refine T_drawS 11 (by kernel_rfl) ?_;(iterate 3 refine zz ?_);refine zo (ok_buildSlice rfl rfl (by decide) rfl (by simp) rfl rfl) ?_;refine zo (ok_call rfl rfl (rqmul2_spec (by omega))) ?_;(iterate 3 refine zz ?_);refine zo (ok_buildSlice rfl rfl (by decide) rfl (by simp) rfl rfl) ?_;refine zo (ok_call rfl rfl (rqmul2_spec (by omega))) ?_;refine zz ?_;refine zzn ?_;refine zw ?_;refine zzn ?_;refine T_ret ?_
 exact ⟨_, [], .one (.agg 0 inferInstance rfl rfl rfl rfl), List.nil_sublist _, rfl, rfl⟩
theorem rpAt_spec {b1 c1 : Bool} {l1 d1 m1 e1 : List Nat} {x1 y1 : Rat} {k1 j1 : Nat} [hx1 : IsQ b1 l1 d1 x1 k1] [hy1 : IsQ c1 m1 e1 y1 j1] {b2 c2 : Bool} {l2 d2 m2 e2 : List Nat} {x2 y2 : Rat} {k2 j2 : Nat} [hx2 : IsQ b2 l2 d2 x2 k2] [hy2 : IsQ c2 m2 e2 y2 j2] {bt : Bool} {lt dt : List Nat} {t : Rat} {kt : Nat} [ht : IsQ bt lt dt t kt] (hs : 128 * (k1 + j1 + k2 + j2 + 2 * kt) + 6000 ≤ 131072 := by decide) : PSpec Tryz.prog G 27 [aggS [boolS b1, natS l1, natS d1, boolS c1, natS m1, natS e1], aggS [boolS b2, natS l2, natS d2, boolS c2, natS m2, natS e2], aggS [boolS bt, natS lt, natS dt]] (aggS (canP (x1 + (x2 - x1) * t) (y1 + (y2 - y1) * t))) := by
 have hxb1 := hx1.bq
 have hyb1 := hy1.bq
 have hxb2 := hx2.bq
 have hyb2 := hy2.bq
 have htb := ht.bq
 refine zs Tryz.func27 ?_;refine zr ?_;(iterate 3 refine zz ?_);refine zzv fun b6 => ?_;refine zzn ?_;refine T_drawS 7 (by kernel_rfl) ?_;(iterate 3 refine zz ?_);refine zo (ok_call rfl rfl (rpSub_spec (by omega))) ?_;refine zz ?_;refine zo (ok_call rfl rfl (rpScale_spec (by omega))) ?_;refine zo (ok_call rfl rfl (rpAdd_spec (by omega))) ?_;refine zzn ?_;refine zw ?_;refine zzn ?_;refine T_ret ?_
 exact ⟨_, [], .one (.agg 0 inferInstance rfl rfl rfl rfl), List.nil_sublist _, rfl, rfl⟩
theorem rpCross_spec {b1 c1 : Bool} {l1 d1 m1 e1 : List Nat} {x1 y1 : Rat} {k1 j1 : Nat} [hx1 : IsQ b1 l1 d1 x1 k1] [hy1 : IsQ c1 m1 e1 y1 j1] {b2 c2 : Bool} {l2 d2 m2 e2 : List Nat} {x2 y2 : Rat} {k2 j2 : Nat} [hx2 : IsQ b2 l2 d2 x2 k2] [hy2 : IsQ c2 m2 e2 y2 j2] (hs : 64 * (k1 + j1 + k2 + j2) + 5000 ≤ 131072 := by decide) : PSpec Tryz.prog G 62 [aggS [boolS b1, natS l1, natS d1, boolS c1, natS m1, natS e1], aggS [boolS b2, natS l2, natS d2, boolS c2, natS m2, natS e2]] (aggS (canQ (x1 * y2 - y1 * x2))) := by
 have hxb1 := hx1.bq
 have hyb1 := hy1.bq
 have hxb2 := hx2.bq
 have hyb2 := hy2.bq
 refine zs Tryz.func62 ?_;refine zr ?_;(iterate 2 refine zz ?_);refine zzv fun b4 => ?_;refine zzn ?_;refine T_drawS 13 (by kernel_rfl) ?_;(iterate 4 refine zz ?_);refine zo (ok_buildSlice rfl rfl (by decide) rfl (by simp) rfl rfl) ?_;refine zo (ok_call rfl rfl (rqmul2_spec (by omega))) ?_;(iterate 4 refine zz ?_);refine zo (ok_buildSlice rfl rfl (by decide) rfl (by simp) rfl rfl) ?_;refine zo (ok_call rfl rfl (rqmul2_spec (by omega))) ?_;refine zo (ok_call rfl rfl (rqsub_spec (by omega))) ?_;refine zzn ?_;refine zw ?_;refine zzn ?_;refine T_ret ?_
 exact ⟨_, [], .one (.agg 0 inferInstance rfl rfl rfl rfl), List.nil_sublist _, rfl, rfl⟩
theorem rpDot_spec {b1 c1 : Bool} {l1 d1 m1 e1 : List Nat} {x1 y1 : Rat} {k1 j1 : Nat} [hx1 : IsQ b1 l1 d1 x1 k1] [hy1 : IsQ c1 m1 e1 y1 j1] {b2 c2 : Bool} {l2 d2 m2 e2 : List Nat} {x2 y2 : Rat} {k2 j2 : Nat} [hx2 : IsQ b2 l2 d2 x2 k2] [hy2 : IsQ c2 m2 e2 y2 j2] (hs : 64 * (k1 + j1 + k2 + j2) + 5000 ≤ 131072 := by decide) : PSpec Tryz.prog G 229 [aggS [boolS b1, natS l1, natS d1, boolS c1, natS m1, natS e1], aggS [boolS b2, natS l2, natS d2, boolS c2, natS m2, natS e2]] (aggS (canQ (x1 * x2 + y1 * y2))) := by
 have hxb1 := hx1.bq
 have hyb1 := hy1.bq
 have hxb2 := hx2.bq
 have hyb2 := hy2.bq
 refine zs Tryz.func229 ?_;refine zr ?_;(iterate 2 refine zz ?_);refine zzv fun b4 => ?_;refine zzn ?_;refine T_drawS 14 (by kernel_rfl) ?_;(iterate 4 refine zz ?_);refine zo (ok_buildSlice rfl rfl (by decide) rfl (by simp) rfl rfl) ?_;refine zo (ok_call rfl rfl (rqmul2_spec (by omega))) ?_;(iterate 4 refine zz ?_);refine zo (ok_buildSlice rfl rfl (by decide) rfl (by simp) rfl rfl) ?_;refine zo (ok_call rfl rfl (rqmul2_spec (by omega))) ?_;refine zo (ok_buildSlice rfl rfl (by decide) rfl (by simp) rfl rfl) ?_;refine zo (ok_call rfl rfl (rqadd2_spec (by omega))) ?_;refine zzn ?_;refine zw ?_;refine zzn ?_;refine T_ret ?_
 exact ⟨_, [], .one (.agg 0 inferInstance rfl rfl rfl rfl), List.nil_sublist _, rfl, rfl⟩
theorem rpCmp_spec {b1 c1 : Bool} {l1 d1 m1 e1 : List Nat} {x1 y1 : Rat} {k1 j1 : Nat} [hx1 : IsQ b1 l1 d1 x1 k1] [hy1 : IsQ c1 m1 e1 y1 j1] {b2 c2 : Bool} {l2 d2 m2 e2 : List Nat} {x2 y2 : Rat} {k2 j2 : Nat} [hx2 : IsQ b2 l2 d2 x2 k2] [hy2 : IsQ c2 m2 e2 y2 j2] (hs : 64 * (k1 + j1 + k2 + j2) + 5000 ≤ 131072 := by decide) : PSpec Tryz.prog G 164 [aggS [boolS b1, natS l1, natS d1, boolS c1, natS m1, natS e1], aggS [boolS b2, natS l2, natS d2, boolS c2, natS m2, natS e2]] (intS .i64 (triP x1 y1 x2 y2)) := by
 refine zs Tryz.func164 ?_;refine zr ?_;(iterate 3 refine zz ?_);refine zx ?_;(iterate 4 refine zz ?_);refine zo (ok_call rfl rfl (rqcmp_spec (by omega))) ?_;refine zz ?_;refine zzn ?_;refine T_seq ?_;refine zr ?_;(iterate 2 refine zz ?_);refine zzn ?_;refine zzc (fun h12 => ?_) fun h12 => ?_
 ·have k12 := bne_iff_ne.1 h12
  refine zr ?_;(iterate 2 refine zz ?_);refine zzn ?_;refine T_ret ?_
  exact ⟨_, [], .one (.tmp rfl), List.nil_sublist _, by unfold triP; rw [if_neg k12], rfl⟩
 ·have k12 := bne_eq_false_iff_eq.1 h12
  refine T_skip ?_;refine zr ?_;(iterate 4 refine zz ?_);refine zo (ok_call rfl rfl (rqcmp_spec (by omega))) ?_;refine zz ?_;refine zzn ?_;refine T_ret ?_
  exact ⟨_, [], .one (.tmp rfl), List.nil_sublist _, by unfold triP; rw [if_pos k12], rfl⟩
theorem rpNorm_spec {xs : List ((Bool × List Nat × List Nat) × (Bool × List Nat × List Nat))} {k : Nat} (hk : 0 < k) (hl : ∀ p ∈ xs, PtOk k p) (hs : 64 * k + 2000 ≤ 131072) (hxl : xs.length ≤ cap) : PSpec Tryz.prog G 89 [slS 6 pc xs] (slS 6 pcan (xs.map pv)) := by
 unfold cap at hxl
 refine zs Tryz.func89 ?_;refine zr ?_;refine zz ?_;refine zx ?_;refine zz ?_;refine zzn ?_;refine T_seq ?_;refine zr ?_;refine zz ?_;refine zzn ?_;refine T_block ?_;refine T_ghost (ghost_row 30 6) ?_
 refine T_loop2 (fun (i : Nat) (q : Option (Nat × Nat)) => ⟨_, [(4, intS .i64 (i : Nat)), (3, eqS (rowV q i)), (0, slS 6 pc xs)], [rowE q 30 6 i (((xs.take i).map pv).flatMap pcan)], [], (0, false)⟩)
   (fun i q => i ≤ xs.length ∧ rowOk q i) (fun i q => xs.length - i)
   0 none ⟨Nat.zero_le _, rfl⟩ (ent_h zk rfl) ?_
 rintro i q ⟨hi, hq⟩
 refine T_seq ?_;refine zr ?_;(iterate 4 refine zz ?_);refine zzn ?_;refine zzc (fun h8 => ?_) fun h8 => ?_
 ·have k8 := of_decide_eq_true h8
  obtain ⟨⟨⟨b, l, d⟩, ⟨c, m, e⟩⟩, hp⟩ : ∃ p, xs[i]? = some p := ⟨_, List.getElem?_eq_getElem (by omega)⟩
  have hpm := hl _ (List.mem_of_getElem? hp)
  have i1 : IsQ b l d (qv (b, l, d)) k := isQ_lim hpm.1 hk
  have i2 : IsQ c m e (qv (c, m, e)) k := isQ_lim hpm.2 hk
  have htk : (xs.take (i + 1)).map pv = (xs.take i).map pv ++ [(qv (b, l, d), qv (c, m, e))] := by rw [List.take_add_one, hp]; simp [pv]
  refine T_skip ?_;refine T_seq ?_;refine T_block ?_;refine T_draw 15 (by kernel_rfl) ?_;(iterate 3 refine zz ?_);refine zo (ok_indexAddr rfl rfl rfl (by omega) (y := ((b, l, d), (c, m, e))) (hp)) ?_;refine zz ?_;refine zo ((show OpOK _ _ _ _ _ (aggS [boolS b, natS l, natS d]) from ok_load_agg rfl rfl rfl rfl)) ?_;refine zf (rqNorm_spec hs) ?_;(iterate 2 refine zz ?_);refine zo (ok_indexAddr rfl rfl rfl (by omega) (y := ((b, l, d), (c, m, e))) (hp)) ?_;refine zz ?_;refine zo ((show OpOK _ _ _ _ _ (aggS [boolS c, natS m, natS e]) from ok_load_agg rfl rfl rfl rfl)) ?_;refine zf (rqNorm_spec hs) ?_;refine zz ?_;refine zo (ok_buildSlice rfl rfl (by decide) rfl (by simp) rfl rfl) ?_;refine zzn ?_;refine Run.append 0 rfl rfl rfl rfl rfl rfl rfl rfl hq (by rw [flat_pcan]; simp; omega) (fun z hz => by rw [List.mem_singleton.1 hz]; rfl) (by unfold big; simp; omega) (by unfold big; simp; omega) fun q20 hq20 => ?_;refine zz ?_;refine zzn ?_;refine T_region ?_;refine zz ?_;refine za ((i + 1 : Nat) : Int) ?_;refine zz ?_;refine zzn ?_
  exact ⟨i + 1, q20, ⟨by omega, hq20⟩, by omega, ent_h (subG_cons rfl (subG_cons rfl (subG_cons rfl (trivial)))) (by rw [htk, List.flatMap_append]; rfl)⟩
 ·have k8 := of_decide_eq_false h8
  have hie : i = xs.length := by omega
  subst hie
  refine T_exit ?_;refine T_ghost (ghost_sl 0 3 rfl rfl hq (l := (xs.take xs.length).map pv) (f := pcan) (by simp) rfl (fun _ _ => rfl) (by unfold big; omega)) ?_;refine zr ?_;(iterate 2 refine zz ?_);refine zzn ?_;refine T_ret ?_
  exact ⟨_, [], .one (.tmp rfl), List.nil_sublist _, by rw [List.take_length], rfl⟩
theorem rpSame_spec {b1 c1 : Bool} {l1 d1 m1 e1 : List Nat} {x1 y1 : Rat} {k1 j1 : Nat} [hx1 : IsQ b1 l1 d1 x1 k1] [hy1 : IsQ c1 m1 e1 y1 j1] {b2 c2 : Bool} {l2 d2 m2 e2 : List Nat} {x2 y2 : Rat} {k2 j2 : Nat} [hx2 : IsQ b2 l2 d2 x2 k2] [hy2 : IsQ c2 m2 e2 y2 j2] (hs : 64 * (k1 + j1 + k2 + j2) + 5000 ≤ 131072 := by decide) : PSpec Tryz.prog G 120 [aggS [boolS b1, natS l1, natS d1, boolS c1, natS m1, natS e1], aggS [boolS b2, natS l2, natS d2, boolS c2, natS m2, natS e2]] (boolS (decide (x1 = x2 ∧ y1 = y2))) := by
 refine zs Tryz.func120 ?_;refine zr ?_;(iterate 3 refine zz ?_);refine zx ?_;(iterate 2 refine zz ?_);refine zf (rpCmp_spec hs) ?_;refine zo ((ok_cmp rfl rfl rfl rfl).sub (bool_eq triP_zero)) ?_;refine zz ?_;refine zzn ?_;refine T_ret ?_
 exact ⟨_, [], .one (.tmp rfl), List.nil_sublist _, rfl, rfl⟩
theorem rpAlike_spec {x1 y1 x2 y2 : Rat} : PSpec Tryz.prog G 74 [aggS (canP x1 y1), aggS (canP x2 y2)] (boolS (decide (x1 = x2 ∧ y1 = y2))) := by
 refine zs Tryz.func74 ?_;refine zr ?_;(iterate 3 refine zz ?_);refine zx ?_;(iterate 4 refine zz ?_)
 refine Run.oneB (ok_call rfl rfl toldq_spec) rfl rfl rfl (fun h1_4 => ?_) (fun h1_4 => ?_)
 ·refine zz ?_;(iterate 4 refine zz ?_);refine zf toldq_spec ?_;(iterate 2 refine zz ?_);refine zzn ?_;refine T_ret ?_
  exact ⟨_, [], .one (.tmp rfl), List.nil_sublist _, congrArg boolS (decide_eq_decide.2 ⟨fun h => ⟨of_decide_eq_true h1_4, h⟩, fun h => h.2⟩), rfl⟩
 ·refine zz ?_;(iterate 5 refine zq ?_);(iterate 2 refine zz ?_);refine zzn ?_;refine T_ret ?_
  exact ⟨_, [], .one (.tmp rfl), List.nil_sublist _, congrArg boolS (decide_eq_false (fun h => of_decide_eq_false h1_4 h.1)).symm, rfl⟩
theorem rpAll_spec {xs ys : List (Rat × Rat)} : PSpec Tryz.prog G 73 [slS 6 pcan xs, slS 6 pcan ys] (boolS (decide (xs = ys))) := by
 refine zs Tryz.func73 ?_;refine T_len 0 rfl fun ha => T_len 1 rfl fun hb => ?_
 unfold big at ha hb
 refine zr ?_;refine zz ?_;refine zzn ?_;refine T_seq ?_;refine zr ?_;(iterate 5 refine zz ?_);refine zzn ?_;refine zzc (fun h10 => ?_) fun h10 => ?_
 ·have k10 := bne_iff_ne.1 h10
  refine zr ?_;refine zz ?_;refine zzn ?_;refine T_ret ?_
  exact ⟨_, [], .one (.tmp rfl), List.nil_sublist _, congrArg boolS (decide_eq_false (fun h => k10 (by rw [h]))).symm, rfl⟩
 ·have k10 := bne_eq_false_iff_eq.1 h10
  refine T_skip ?_;refine T_seq ?_;refine zr ?_;refine zz ?_;refine zzn ?_;refine T_block ?_
  refine T_loop (γ := Nat) (fun i => ⟨_, [(5, intS .i64 (i : Nat)), (1, slS 6 pcan ys), (0, slS 6 pcan xs)], [], [], (0, false)⟩) (fun i => i ≤ xs.length ∧ ∀ j, j < i → xs[j]? = ys[j]?) (fun i => xs.length - i) 0 ⟨Nat.zero_le _, fun j h => by omega⟩ (ent_g zk) ?_
  rintro i ⟨hi, hz⟩
  refine T_seq ?_;refine zr ?_;(iterate 4 refine zz ?_);refine zzn ?_;refine zzc (fun h14 => ?_) fun h14 => ?_
  ·have k14 := of_decide_eq_true h14
   have hl : xs.length = ys.length := by omega
   obtain ⟨⟨x1, y1⟩, hx⟩ : ∃ p, xs[i]? = some p := ⟨_, List.getElem?_eq_getElem (by omega)⟩
   obtain ⟨⟨x2, y2⟩, hy⟩ : ∃ p, ys[i]? = some p := ⟨_, List.getElem?_eq_getElem (by omega)⟩
   refine T_skip ?_;refine T_seq ?_;refine T_block ?_;refine T_drawS 10 (by kernel_rfl) ?_;(iterate 2 refine zz ?_);refine zo (ok_indexAddr rfl rfl rfl (by omega) (y := (x1, y1)) (hx)) ?_;(iterate 3 refine zz ?_);refine zo (ok_indexAddr rfl rfl rfl (by omega) (y := (x2, y2)) (hy)) ?_;refine zz ?_;refine zf rpAlike_spec ?_;refine zz ?_;(iterate 2 refine zzn ?_);refine zzc (fun h26 => ?_) fun h26 => ?_
   ·refine zr ?_;refine zz ?_;refine zzn ?_;refine T_ret ?_
    exact ⟨_, [], .one (.tmp rfl), List.nil_sublist _, congrArg boolS (decide_eq_false (fun h => by rw [h, hy] at hx; cases hx; simp at h26)).symm, rfl⟩
   ·refine T_skip ?_;refine T_region ?_;refine zz ?_;refine za ((i + 1 : Nat) : Int) ?_;refine zz ?_;refine zzn ?_
    refine ⟨i + 1, ⟨by omega, fun j hj => ?_⟩, by omega, ent_g zk⟩
    have h26b : decide (x1 = x2 ∧ y1 = y2) = true := by simpa using h26
    obtain ⟨e1, e2⟩ := of_decide_eq_true h26b
    rcases Nat.lt_or_ge j i with h | h
    ·exact hz j h
    ·rw [show j = i by omega, hx, hy, e1, e2]
  ·have k14 := of_decide_eq_false h14
   refine T_exit ?_;refine zr ?_;refine zz ?_;refine zzn ?_;refine T_ret ?_
   exact ⟨_, [], .one (.tmp rfl), List.nil_sublist _, congrArg boolS (decide_eq_true (List.ext_getElem? fun j => by
    rcases Nat.lt_or_ge j i with h | h
    ·exact hz j h
    ·rw [List.getElem?_eq_none (by omega), List.getElem?_eq_none (by omega)])).symm, rfl⟩
theorem rpGreat_spec {xs : List ((Bool × List Nat × List Nat) × (Bool × List Nat × List Nat))} : PSpec Tryz.prog G 114 [slS 6 pc xs] (boolS (decide (60 < xs.length ∨ ∃ p ∈ xs, 6 < psz p))) := by
 refine zs Tryz.func114 ?_;refine zr ?_;refine zz ?_;refine zzn ?_;refine T_seq ?_;refine zr ?_;refine zz ?_;refine zzn ?_;refine T_block ?_;refine T_len 0 rfl fun ha => ?_
 unfold big at ha
 refine T_loop (γ := Nat) (fun i => ⟨_, [(3, intS .i64 (i : Nat)), (0, slS 6 pc xs)], [], [], (0, false)⟩) (fun i => i ≤ xs.length ∧ i ≤ 61 ∧ ∀ j p, j < i → xs[j]? = some p → psz p ≤ 6) (fun i => xs.length - i) 0 ⟨Nat.zero_le _, by decide, fun j p h => by omega⟩ (ent_g zk) ?_
 rintro i ⟨hi, hi2, hz⟩
 refine T_seq ?_;refine zr ?_;(iterate 3 refine zz ?_)
 refine Run.oneB (ok_cmp rfl rfl rfl rfl) rfl rfl rfl (fun h2_3 => ?_) (fun h2_3 => ?_)
 ·have k2_3 := of_decide_eq_true h2_3
  (iterate 4 refine zz ?_);refine zzn ?_;refine zzc (fun h11 => ?_) fun h11 => ?_
  ·have k11 := of_decide_eq_true h11
   refine T_skip ?_;refine T_seq ?_;refine T_block ?_;refine T_drawS 32 (by kernel_rfl) ?_
   obtain ⟨⟨⟨b, l, d⟩, ⟨c, m, e⟩⟩, hp⟩ : ∃ p, xs[i]? = some p := ⟨_, List.getElem?_eq_getElem (by omega)⟩
   have hpm := List.mem_of_getElem? hp
   obtain ⟨sz, hsz⟩ : ∃ sz, sz = psz ((b, l, d), (c, m, e)) := ⟨_, rfl⟩
   have hsz2 : sz = max (max (max l.length d.length) m.length) e.length := hsz
   (iterate 2 refine zz ?_);refine zo (ok_indexAddr rfl rfl rfl (by omega) (y := ((b, l, d), (c, m, e))) (hp)) ?_;(iterate 7 refine zz ?_);refine zo (ok_indexAddr rfl rfl rfl (by omega) (y := ((b, l, d), (c, m, e))) (hp)) ?_;(iterate 6 refine zz ?_);refine zo (ok_indexAddr rfl rfl rfl (by omega) (y := ((b, l, d), (c, m, e))) (hp)) ?_;(iterate 7 refine zz ?_);refine zo (ok_indexAddr rfl rfl rfl (by omega) (y := ((b, l, d), (c, m, e))) (hp)) ?_;(iterate 4 refine zz ?_);refine zo ((ok_max4 rfl rfl rfl rfl rfl).sub (int_eq (n := ((sz : Nat) : Int)) (by simp only [hsz2]; omega))) ?_;refine zz ?_;(iterate 2 refine zzn ?_);refine zzc (fun h45 => ?_) fun h45 => ?_
   ·have k45 := of_decide_eq_true h45
    refine zr ?_;refine zz ?_;refine zzn ?_;refine T_ret ?_
    exact ⟨_, [], .one (.tmp rfl), List.nil_sublist _, congrArg boolS (decide_eq_true (.inr ⟨_, hpm, by rw [← hsz]; omega⟩)).symm, rfl⟩
   ·have k45 := of_decide_eq_false h45
    refine T_skip ?_;refine T_region ?_;refine zz ?_;refine za ((i + 1 : Nat) : Int) ?_;refine zz ?_;refine zzn ?_
    refine ⟨i + 1, ⟨by omega, ?_, fun j p hj hpj => ?_⟩, by omega, ent_g zk⟩
    ·omega
    rcases Nat.lt_or_ge j i with h | h
    ·exact hz j p h hpj
    ·rw [show j = i by omega, hp] at hpj; cases hpj; rw [← hsz]; omega
  ·have k11 := of_decide_eq_false h11
   refine T_exit ?_;refine zr ?_;(iterate 2 refine zz ?_);refine zo ((ok_cmp rfl rfl rfl rfl).sub (bool_eq (c := decide (60 < xs.length ∨ ∃ p ∈ xs, 6 < psz p)) (decide_eq_decide.2 ⟨fun h => .inl (by omega), fun h => by rcases h with h | h; omega; omega⟩))) ?_;refine zz ?_;refine zzn ?_;refine T_ret ?_
   exact ⟨_, [], .one (.tmp rfl), List.nil_sublist _, rfl, rfl⟩
 ·have k2_3 := of_decide_eq_false h2_3
  refine zz ?_;(iterate 2 refine zq ?_);refine zz ?_;refine zzn ?_;refine T_condF rfl rfl ?_;refine T_exit ?_;refine zr ?_;(iterate 2 refine zz ?_);refine zo ((ok_cmp rfl rfl rfl rfl).sub (bool_eq (c := decide (60 < xs.length ∨ ∃ p ∈ xs, 6 < psz p)) (decide_eq_decide.2 ⟨fun h => .inl (by omega), fun h => by rcases h with h | ⟨p, hp, h⟩; omega; obtain ⟨j, hj⟩ := List.getElem?_of_mem hp; have := hz j p (by have := lt_of_get hj; omega) hj; omega⟩))) ?_;refine zz ?_;refine zzn ?_;refine T_ret ?_
  exact ⟨_, [], .one (.tmp rfl), List.nil_sublist _, rfl, rfl⟩
end Go.Proofs
