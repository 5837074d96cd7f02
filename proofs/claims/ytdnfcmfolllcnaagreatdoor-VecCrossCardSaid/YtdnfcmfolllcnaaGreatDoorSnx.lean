/- Points: straitref08; what the laws ask of sizes. -/
import Derived.Test.YtdnfcmfolllcnaaGreatDoorSnw
namespace Go.Proofs
open Go Go.Sv Num
variable {G : Imm}
abbrev psz (p : (Bool × List Nat × List Nat) × (Bool × List Nat × List Nat)) : Nat := max (max (max p.1.2.1.length p.1.2.2.length) p.2.2.1.length) p.2.2.2.length
theorem abs_dist (x u : Rat) : (if x - u < 0 then 0 - (x - u) else x - u) = dist x u := by
  unfold dist
  by_cases h : x < u
  · rw [if_pos h, if_pos (by grind)]; grind
  · rw [if_neg h, if_neg (by grind)]
theorem tri_neg {q : Rat} : tri q 0 < 0 ↔ q < 0 := by
  unfold tri
  by_cases h : q < 0
  · rw [if_pos h]; exact ⟨fun _ => h, fun _ => by decide⟩
  · rw [if_neg h]
    constructor
    · intro h1; split at h1 <;> exact absurd h1 (by decide)
    · intro h1; exact absurd h1 h
instance bq_two : Bq 2 1 := ⟨by decide, by decide⟩
instance bq_three : Bq 3 1 := ⟨by decide, by decide⟩
instance bq_four : Bq 4 1 := ⟨by decide, by decide⟩
instance bq_seven : Bq 7 1 := ⟨by decide, by decide⟩
theorem rpOf_spec {n m : Int} {p q : Rat} (h1 : -9223372036854775808 ≤ n) (h2 : n ≤ 9223372036854775807) (h3 : -9223372036854775808 ≤ m) (h4 : m ≤ 9223372036854775807) (hp : (n : Rat) = p := by rfl) (hq : (m : Rat) = q := by rfl) : PSpec Tryz.prog G 37 [intS .i64 n, intS .i64 m] (aggS (canP p q)) := by
  refine fn_spec Tryz.func37 rfl rfl rfl ?_
  refine T_regionS ?_
  refine Run.alloc rfl rfl rfl rfl rfl fun b4 => ?_
  refine Run.nil ?_
  refine T_regionS ?_
  refine Run.one (ok_move rfl rfl) rfl rfl rfl ?_
  refine Run.one (ok_call rfl rfl (rqOf_spec h1 h2 hp)) rfl rfl rfl ?_
  refine Run.one (ok_move rfl rfl) rfl rfl rfl ?_
  refine Run.one (ok_call rfl rfl (rqOf_spec h3 h4 hq)) rfl rfl rfl ?_
  refine Run.one (ok_build rfl rfl rfl) rfl rfl rfl ?_
  refine Run.store 0 rfl rfl rfl rfl rfl rfl rfl rfl rfl ?_
  refine Run.nil ?_
  refine T_ret ?_
  exact ⟨_, [], .one (.agg 0 inferInstance rfl rfl rfl rfl), List.nil_sublist _, rfl, rfl⟩
theorem rpAdd_spec {b1 c1 : Bool} {l1 d1 m1 e1 : List Nat} {x1 y1 : Rat} {k1 j1 : Nat} [hx1 : IsQ b1 l1 d1 x1 k1] [hy1 : IsQ c1 m1 e1 y1 j1] {b2 c2 : Bool} {l2 d2 m2 e2 : List Nat} {x2 y2 : Rat} {k2 j2 : Nat} [hx2 : IsQ b2 l2 d2 x2 k2] [hy2 : IsQ c2 m2 e2 y2 j2] (hs : 64 * (k1 + j1 + k2 + j2) + 23000 ≤ 65536 := by decide) : PSpec Tryz.prog G 32 [aggS [boolS b1, natS l1, natS d1, boolS c1, natS m1, natS e1], aggS [boolS b2, natS l2, natS d2, boolS c2, natS m2, natS e2]] (aggS (canP (x1 + x2) (y1 + y2))) := by
  refine fn_spec Tryz.func32 rfl rfl rfl ?_
  refine T_regionS ?_
  refine Run.one (ok_box rfl rfl) rfl rfl rfl ?_
  refine Run.one (ok_box rfl rfl) rfl rfl rfl ?_
  refine Run.alloc rfl rfl rfl rfl rfl fun b4 => ?_
  refine Run.nil ?_
  refine T_drawS 13 (by kernel_rfl) ?_
  refine Run.one (ok_fieldAddr rfl rfl rfl) rfl rfl rfl ?_
  refine Run.one (ok_load_agg rfl rfl rfl rfl) rfl rfl rfl ?_
  refine Run.one (ok_fieldAddr rfl rfl rfl) rfl rfl rfl ?_
  refine Run.one (ok_load_agg rfl rfl rfl rfl) rfl rfl rfl ?_
  refine Run.one (ok_buildSlice rfl rfl (by decide) rfl (by simp) rfl rfl) rfl rfl rfl ?_
  refine Run.one (ok_call rfl rfl (rqadd2_spec (by omega))) rfl rfl rfl ?_
  refine Run.one (ok_fieldAddr rfl rfl rfl) rfl rfl rfl ?_
  refine Run.one (ok_load_agg rfl rfl rfl rfl) rfl rfl rfl ?_
  refine Run.one (ok_fieldAddr rfl rfl rfl) rfl rfl rfl ?_
  refine Run.one (ok_load_agg rfl rfl rfl rfl) rfl rfl rfl ?_
  refine Run.one (ok_buildSlice rfl rfl (by decide) rfl (by simp) rfl rfl) rfl rfl rfl ?_
  refine Run.one (ok_call rfl rfl (rqadd2_spec (by omega))) rfl rfl rfl ?_
  refine Run.one (ok_build rfl rfl rfl) rfl rfl rfl ?_
  refine Run.nil ?_
  refine Run.store 0 rfl rfl rfl rfl rfl rfl rfl rfl rfl ?_
  refine Run.nil ?_
  refine T_ret ?_
  exact ⟨_, [], .one (.agg 0 inferInstance rfl rfl rfl rfl), List.nil_sublist _, rfl, rfl⟩
theorem rpSub_spec {b1 c1 : Bool} {l1 d1 m1 e1 : List Nat} {x1 y1 : Rat} {k1 j1 : Nat} [hx1 : IsQ b1 l1 d1 x1 k1] [hy1 : IsQ c1 m1 e1 y1 j1] {b2 c2 : Bool} {l2 d2 m2 e2 : List Nat} {x2 y2 : Rat} {k2 j2 : Nat} [hx2 : IsQ b2 l2 d2 x2 k2] [hy2 : IsQ c2 m2 e2 y2 j2] (hs : 64 * (k1 + j1 + k2 + j2) + 23000 ≤ 65536 := by decide) : PSpec Tryz.prog G 33 [aggS [boolS b1, natS l1, natS d1, boolS c1, natS m1, natS e1], aggS [boolS b2, natS l2, natS d2, boolS c2, natS m2, natS e2]] (aggS (canP (x1 - x2) (y1 - y2))) := by
  refine fn_spec Tryz.func33 rfl rfl rfl ?_
  refine T_regionS ?_
  refine Run.one (ok_box rfl rfl) rfl rfl rfl ?_
  refine Run.one (ok_box rfl rfl) rfl rfl rfl ?_
  refine Run.alloc rfl rfl rfl rfl rfl fun b4 => ?_
  refine Run.nil ?_
  refine T_drawS 11 (by kernel_rfl) ?_
  refine Run.one (ok_fieldAddr rfl rfl rfl) rfl rfl rfl ?_
  refine Run.one (ok_load_agg rfl rfl rfl rfl) rfl rfl rfl ?_
  refine Run.one (ok_fieldAddr rfl rfl rfl) rfl rfl rfl ?_
  refine Run.one (ok_load_agg rfl rfl rfl rfl) rfl rfl rfl ?_
  refine Run.one (ok_call rfl rfl (rqsub_spec (by omega))) rfl rfl rfl ?_
  refine Run.one (ok_fieldAddr rfl rfl rfl) rfl rfl rfl ?_
  refine Run.one (ok_load_agg rfl rfl rfl rfl) rfl rfl rfl ?_
  refine Run.one (ok_fieldAddr rfl rfl rfl) rfl rfl rfl ?_
  refine Run.one (ok_load_agg rfl rfl rfl rfl) rfl rfl rfl ?_
  refine Run.one (ok_call rfl rfl (rqsub_spec (by omega))) rfl rfl rfl ?_
  refine Run.one (ok_build rfl rfl rfl) rfl rfl rfl ?_
  refine Run.nil ?_
  refine Run.store 0 rfl rfl rfl rfl rfl rfl rfl rfl rfl ?_
  refine Run.nil ?_
  refine T_ret ?_
  exact ⟨_, [], .one (.agg 0 inferInstance rfl rfl rfl rfl), List.nil_sublist _, rfl, rfl⟩
theorem rpNeg_spec {b1 c1 : Bool} {l1 d1 m1 e1 : List Nat} {x1 y1 : Rat} {k1 j1 : Nat} [hx1 : IsQ b1 l1 d1 x1 k1] [hy1 : IsQ c1 m1 e1 y1 j1] (hs : 64 * (k1 + j1) + 23500 ≤ 65536 := by decide) : PSpec Tryz.prog G 34 [aggS [boolS b1, natS l1, natS d1, boolS c1, natS m1, natS e1]] (aggS (canP (-x1) (-y1))) := by
  refine fn_spec Tryz.func34 rfl rfl rfl ?_
  refine T_regionS ?_
  refine Run.one (ok_box rfl rfl) rfl rfl rfl ?_
  refine Run.alloc rfl rfl rfl rfl rfl fun b2 => ?_
  refine Run.nil ?_
  refine T_drawS 3 (by kernel_rfl) ?_
  refine Run.one (ok_call rfl rfl (rpOf_spec (n := 0) (m := 0) (p := 0) (q := 0) (by decide) (by decide) (by decide) (by decide))) rfl rfl rfl ?_
  refine Run.one (ok_load_agg rfl rfl rfl rfl) rfl rfl rfl ?_
  refine Run.one ((ok_call rfl rfl (rpSub_spec (by omega))).sub (show ∀ I v, (aggS (canP (0 - x1) (0 - y1))).den I v → (aggS (canP (-x1) (-y1))).den I v from fun I v h => by rw [← neg_sub0, ← neg_sub0]; exact h)) rfl rfl rfl ?_
  refine Run.nil ?_
  refine Run.store 0 rfl rfl rfl rfl rfl rfl rfl rfl rfl ?_
  refine Run.nil ?_
  refine T_ret ?_
  exact ⟨_, [], .one (.agg 0 inferInstance rfl rfl rfl rfl), List.nil_sublist _, rfl, rfl⟩
theorem rpScale_spec {b1 c1 : Bool} {l1 d1 m1 e1 : List Nat} {x1 y1 : Rat} {k1 j1 : Nat} [hx1 : IsQ b1 l1 d1 x1 k1] [hy1 : IsQ c1 m1 e1 y1 j1] {bt : Bool} {lt dt : List Nat} {t : Rat} {kt : Nat} [ht : IsQ bt lt dt t kt] (hs : 64 * (k1 + j1 + 2 * kt) + 23000 ≤ 65536 := by decide) : PSpec Tryz.prog G 35 [aggS [boolS b1, natS l1, natS d1, boolS c1, natS m1, natS e1], aggS [boolS bt, natS lt, natS dt]] (aggS (canP (x1 * t) (y1 * t))) := by
  refine fn_spec Tryz.func35 rfl rfl rfl ?_
  refine T_regionS ?_
  refine Run.one (ok_box rfl rfl) rfl rfl rfl ?_
  refine Run.one (ok_box rfl rfl) rfl rfl rfl ?_
  refine Run.alloc rfl rfl rfl rfl rfl fun b4 => ?_
  refine Run.nil ?_
  refine T_drawS 11 (by kernel_rfl) ?_
  refine Run.one (ok_fieldAddr rfl rfl rfl) rfl rfl rfl ?_
  refine Run.one (ok_load_agg rfl rfl rfl rfl) rfl rfl rfl ?_
  refine Run.one (ok_load_agg rfl rfl rfl rfl) rfl rfl rfl ?_
  refine Run.one (ok_buildSlice rfl rfl (by decide) rfl (by simp) rfl rfl) rfl rfl rfl ?_
  refine Run.one (ok_call rfl rfl (rqmul2_spec (by omega))) rfl rfl rfl ?_
  refine Run.one (ok_fieldAddr rfl rfl rfl) rfl rfl rfl ?_
  refine Run.one (ok_load_agg rfl rfl rfl rfl) rfl rfl rfl ?_
  refine Run.one (ok_load_agg rfl rfl rfl rfl) rfl rfl rfl ?_
  refine Run.one (ok_buildSlice rfl rfl (by decide) rfl (by simp) rfl rfl) rfl rfl rfl ?_
  refine Run.one (ok_call rfl rfl (rqmul2_spec (by omega))) rfl rfl rfl ?_
  refine Run.one (ok_build rfl rfl rfl) rfl rfl rfl ?_
  refine Run.nil ?_
  refine Run.store 0 rfl rfl rfl rfl rfl rfl rfl rfl rfl ?_
  refine Run.nil ?_
  refine T_ret ?_
  exact ⟨_, [], .one (.agg 0 inferInstance rfl rfl rfl rfl), List.nil_sublist _, rfl, rfl⟩
theorem rpAt_spec {b1 c1 : Bool} {l1 d1 m1 e1 : List Nat} {x1 y1 : Rat} {k1 j1 : Nat} [hx1 : IsQ b1 l1 d1 x1 k1] [hy1 : IsQ c1 m1 e1 y1 j1] {b2 c2 : Bool} {l2 d2 m2 e2 : List Nat} {x2 y2 : Rat} {k2 j2 : Nat} [hx2 : IsQ b2 l2 d2 x2 k2] [hy2 : IsQ c2 m2 e2 y2 j2] {bt : Bool} {lt dt : List Nat} {t : Rat} {kt : Nat} [ht : IsQ bt lt dt t kt] (hs : 128 * (k1 + j1 + k2 + j2 + 2 * kt) + 24000 ≤ 65536 := by decide) : PSpec Tryz.prog G 36 [aggS [boolS b1, natS l1, natS d1, boolS c1, natS m1, natS e1], aggS [boolS b2, natS l2, natS d2, boolS c2, natS m2, natS e2], aggS [boolS bt, natS lt, natS dt]] (aggS (canP (x1 + (x2 - x1) * t) (y1 + (y2 - y1) * t))) := by
  have hxb1 := hx1.bq
  have hyb1 := hy1.bq
  have hxb2 := hx2.bq
  have hyb2 := hy2.bq
  have htb := ht.bq
  refine fn_spec Tryz.func36 rfl rfl rfl ?_
  refine T_regionS ?_
  refine Run.one (ok_box rfl rfl) rfl rfl rfl ?_
  refine Run.one (ok_box rfl rfl) rfl rfl rfl ?_
  refine Run.one (ok_box rfl rfl) rfl rfl rfl ?_
  refine Run.alloc rfl rfl rfl rfl rfl fun b6 => ?_
  refine Run.nil ?_
  refine T_drawS 7 (by kernel_rfl) ?_
  refine Run.one (ok_load_agg rfl rfl rfl rfl) rfl rfl rfl ?_
  refine Run.one (ok_load_agg rfl rfl rfl rfl) rfl rfl rfl ?_
  refine Run.one (ok_load_agg rfl rfl rfl rfl) rfl rfl rfl ?_
  refine Run.one (ok_call rfl rfl (rpSub_spec (by omega))) rfl rfl rfl ?_
  refine Run.one (ok_load_agg rfl rfl rfl rfl) rfl rfl rfl ?_
  refine Run.one (ok_call rfl rfl (rpScale_spec (by omega))) rfl rfl rfl ?_
  refine Run.one (ok_call rfl rfl (rpAdd_spec (by omega))) rfl rfl rfl ?_
  refine Run.nil ?_
  refine Run.store 0 rfl rfl rfl rfl rfl rfl rfl rfl rfl ?_
  refine Run.nil ?_
  refine T_ret ?_
  exact ⟨_, [], .one (.agg 0 inferInstance rfl rfl rfl rfl), List.nil_sublist _, rfl, rfl⟩
theorem rpCross_spec {b1 c1 : Bool} {l1 d1 m1 e1 : List Nat} {x1 y1 : Rat} {k1 j1 : Nat} [hx1 : IsQ b1 l1 d1 x1 k1] [hy1 : IsQ c1 m1 e1 y1 j1] {b2 c2 : Bool} {l2 d2 m2 e2 : List Nat} {x2 y2 : Rat} {k2 j2 : Nat} [hx2 : IsQ b2 l2 d2 x2 k2] [hy2 : IsQ c2 m2 e2 y2 j2] (hs : 64 * (k1 + j1 + k2 + j2) + 23000 ≤ 65536 := by decide) : PSpec Tryz.prog G 39 [aggS [boolS b1, natS l1, natS d1, boolS c1, natS m1, natS e1], aggS [boolS b2, natS l2, natS d2, boolS c2, natS m2, natS e2]] (aggS (canQ (x1 * y2 - y1 * x2))) := by
  have hxb1 := hx1.bq
  have hyb1 := hy1.bq
  have hxb2 := hx2.bq
  have hyb2 := hy2.bq
  refine fn_spec Tryz.func39 rfl rfl rfl ?_
  refine T_regionS ?_
  refine Run.one (ok_box rfl rfl) rfl rfl rfl ?_
  refine Run.one (ok_box rfl rfl) rfl rfl rfl ?_
  refine Run.alloc rfl rfl rfl rfl rfl fun b4 => ?_
  refine Run.nil ?_
  refine T_drawS 13 (by kernel_rfl) ?_
  refine Run.one (ok_fieldAddr rfl rfl rfl) rfl rfl rfl ?_
  refine Run.one (ok_load_agg rfl rfl rfl rfl) rfl rfl rfl ?_
  refine Run.one (ok_fieldAddr rfl rfl rfl) rfl rfl rfl ?_
  refine Run.one (ok_load_agg rfl rfl rfl rfl) rfl rfl rfl ?_
  refine Run.one (ok_buildSlice rfl rfl (by decide) rfl (by simp) rfl rfl) rfl rfl rfl ?_
  refine Run.one (ok_call rfl rfl (rqmul2_spec (by omega))) rfl rfl rfl ?_
  refine Run.one (ok_fieldAddr rfl rfl rfl) rfl rfl rfl ?_
  refine Run.one (ok_load_agg rfl rfl rfl rfl) rfl rfl rfl ?_
  refine Run.one (ok_fieldAddr rfl rfl rfl) rfl rfl rfl ?_
  refine Run.one (ok_load_agg rfl rfl rfl rfl) rfl rfl rfl ?_
  refine Run.one (ok_buildSlice rfl rfl (by decide) rfl (by simp) rfl rfl) rfl rfl rfl ?_
  refine Run.one (ok_call rfl rfl (rqmul2_spec (by omega))) rfl rfl rfl ?_
  refine Run.one (ok_call rfl rfl (rqsub_spec (by omega))) rfl rfl rfl ?_
  refine Run.nil ?_
  refine Run.store 0 rfl rfl rfl rfl rfl rfl rfl rfl rfl ?_
  refine Run.nil ?_
  refine T_ret ?_
  exact ⟨_, [], .one (.agg 0 inferInstance rfl rfl rfl rfl), List.nil_sublist _, rfl, rfl⟩
theorem rpDot_spec {b1 c1 : Bool} {l1 d1 m1 e1 : List Nat} {x1 y1 : Rat} {k1 j1 : Nat} [hx1 : IsQ b1 l1 d1 x1 k1] [hy1 : IsQ c1 m1 e1 y1 j1] {b2 c2 : Bool} {l2 d2 m2 e2 : List Nat} {x2 y2 : Rat} {k2 j2 : Nat} [hx2 : IsQ b2 l2 d2 x2 k2] [hy2 : IsQ c2 m2 e2 y2 j2] (hs : 64 * (k1 + j1 + k2 + j2) + 23000 ≤ 65536 := by decide) : PSpec Tryz.prog G 40 [aggS [boolS b1, natS l1, natS d1, boolS c1, natS m1, natS e1], aggS [boolS b2, natS l2, natS d2, boolS c2, natS m2, natS e2]] (aggS (canQ (x1 * x2 + y1 * y2))) := by
  have hxb1 := hx1.bq
  have hyb1 := hy1.bq
  have hxb2 := hx2.bq
  have hyb2 := hy2.bq
  refine fn_spec Tryz.func40 rfl rfl rfl ?_
  refine T_regionS ?_
  refine Run.one (ok_box rfl rfl) rfl rfl rfl ?_
  refine Run.one (ok_box rfl rfl) rfl rfl rfl ?_
  refine Run.alloc rfl rfl rfl rfl rfl fun b4 => ?_
  refine Run.nil ?_
  refine T_drawS 14 (by kernel_rfl) ?_
  refine Run.one (ok_fieldAddr rfl rfl rfl) rfl rfl rfl ?_
  refine Run.one (ok_load_agg rfl rfl rfl rfl) rfl rfl rfl ?_
  refine Run.one (ok_fieldAddr rfl rfl rfl) rfl rfl rfl ?_
  refine Run.one (ok_load_agg rfl rfl rfl rfl) rfl rfl rfl ?_
  refine Run.one (ok_buildSlice rfl rfl (by decide) rfl (by simp) rfl rfl) rfl rfl rfl ?_
  refine Run.one (ok_call rfl rfl (rqmul2_spec (by omega))) rfl rfl rfl ?_
  refine Run.one (ok_fieldAddr rfl rfl rfl) rfl rfl rfl ?_
  refine Run.one (ok_load_agg rfl rfl rfl rfl) rfl rfl rfl ?_
  refine Run.one (ok_fieldAddr rfl rfl rfl) rfl rfl rfl ?_
  refine Run.one (ok_load_agg rfl rfl rfl rfl) rfl rfl rfl ?_
  refine Run.one (ok_buildSlice rfl rfl (by decide) rfl (by simp) rfl rfl) rfl rfl rfl ?_
  refine Run.one (ok_call rfl rfl (rqmul2_spec (by omega))) rfl rfl rfl ?_
  refine Run.one (ok_buildSlice rfl rfl (by decide) rfl (by simp) rfl rfl) rfl rfl rfl ?_
  refine Run.one (ok_call rfl rfl (rqadd2_spec (by omega))) rfl rfl rfl ?_
  refine Run.nil ?_
  refine Run.store 0 rfl rfl rfl rfl rfl rfl rfl rfl rfl ?_
  refine Run.nil ?_
  refine T_ret ?_
  exact ⟨_, [], .one (.agg 0 inferInstance rfl rfl rfl rfl), List.nil_sublist _, rfl, rfl⟩
theorem rabs_spec {b : Bool} {l d : List Nat} {q : Rat} {k : Nat} [h : IsQ b l d q k] (hs : 64 * k + 22100 ≤ 65536 := by decide) : PSpec Tryz.prog G 68 [aggS [boolS b, natS l, natS d]] (aggS (canQ (if q < 0 then 0 - q else q))) := by
  refine fn_spec Tryz.func68 rfl rfl rfl ?_
  refine T_regionS ?_
  refine Run.one (ok_box rfl rfl) rfl rfl rfl ?_
  refine Run.alloc rfl rfl rfl rfl rfl fun b2 => ?_
  refine Run.nil ?_
  refine T_seq ?_
  refine T_regionS ?_
  refine Run.one (ok_load_agg rfl rfl rfl rfl) rfl rfl rfl ?_
  refine Run.one (ok_call rfl rfl (rqSign_spec (by omega))) rfl rfl rfl ?_
  refine Run.one (ok_cmp rfl rfl rfl rfl) rfl rfl rfl ?_
  refine Run.nil ?_
  refine T_cond rfl rfl (fun h5 => ?_) (fun h5 => ?_)
  · have k5 := of_decide_eq_true h5
    have hlt : q < 0 := tri_neg.1 k5
    refine T_drawS 3 (by kernel_rfl) ?_
    refine Run.one (ok_call rfl rfl (rqOf_spec (n := 0) (q := 0) (by decide) (by decide))) rfl rfl rfl ?_
    refine Run.one (ok_load_agg rfl rfl rfl rfl) rfl rfl rfl ?_
    refine Run.one (ok_call rfl rfl (rqsub_spec (by omega))) rfl rfl rfl ?_
    refine Run.nil ?_
    refine Run.store 0 rfl rfl rfl rfl rfl rfl rfl rfl rfl ?_
    refine Run.nil ?_
    refine T_ret ?_
    exact ⟨_, [], .one (.agg 0 inferInstance rfl rfl rfl rfl), List.nil_sublist _, by rw [if_pos hlt]; rfl, rfl⟩
  · have k5 := of_decide_eq_false h5
    have hlt : ¬ q < 0 := fun h => k5 (tri_neg.2 h)
    refine T_skip ?_
    refine T_regionS ?_
    refine Run.one (ok_load_agg rfl rfl rfl rfl) rfl rfl rfl ?_
    refine Run.one (ok_call rfl rfl (rqNorm_spec (by omega))) rfl rfl rfl ?_
    refine Run.store 0 rfl rfl rfl rfl rfl rfl rfl rfl rfl ?_
    refine Run.nil ?_
    refine T_ret ?_
    exact ⟨_, [], .one (.agg 0 inferInstance rfl rfl rfl rfl), List.nil_sublist _, by rw [if_neg hlt]; rfl, rfl⟩
theorem rpFar_spec {b1 c1 : Bool} {l1 d1 m1 e1 : List Nat} {x1 y1 : Rat} {k1 j1 : Nat} [hx1 : IsQ b1 l1 d1 x1 k1] [hy1 : IsQ c1 m1 e1 y1 j1] {b2 c2 : Bool} {l2 d2 m2 e2 : List Nat} {x2 y2 : Rat} {k2 j2 : Nat} [hx2 : IsQ b2 l2 d2 x2 k2] [hy2 : IsQ c2 m2 e2 y2 j2] (hs : 64 * (k1 + j1 + k2 + j2) + 23500 ≤ 65536 := by decide) : PSpec Tryz.prog G 41 [aggS [boolS b1, natS l1, natS d1, boolS c1, natS m1, natS e1], aggS [boolS b2, natS l2, natS d2, boolS c2, natS m2, natS e2]] (aggS (canQ (dist x1 x2 + dist y1 y2))) := by
  have hxb1 := hx1.bq
  have hyb1 := hy1.bq
  have hxb2 := hx2.bq
  have hyb2 := hy2.bq
  refine fn_spec Tryz.func41 rfl rfl rfl ?_
  refine T_regionS ?_
  refine Run.one (ok_box rfl rfl) rfl rfl rfl ?_
  refine Run.one (ok_box rfl rfl) rfl rfl rfl ?_
  refine Run.alloc rfl rfl rfl rfl rfl fun b4 => ?_
  refine Run.nil ?_
  refine T_regionS ?_
  refine Run.one (ok_load_agg rfl rfl rfl rfl) rfl rfl rfl ?_
  refine Run.one (ok_load_agg rfl rfl rfl rfl) rfl rfl rfl ?_
  refine Run.one (ok_call rfl rfl (rpSub_spec (by omega))) rfl rfl rfl ?_
  refine Run.alloc rfl rfl rfl rfl rfl fun b5 => ?_
  refine Run.store 0 rfl rfl rfl rfl rfl rfl rfl rfl rfl ?_
  refine Run.nil ?_
  refine T_drawS 8 (by kernel_rfl) ?_
  refine Run.one (ok_fieldAddr_eq rfl rfl rfl) rfl rfl rfl ?_
  refine Run.one (ok_load_own_agg 0 rfl rfl rfl rfl rfl) rfl rfl rfl ?_
  refine Run.one ((ok_call rfl rfl (rabs_spec (by omega))).sub (show ∀ I v, (aggS (canQ (if x1 - x2 < 0 then 0 - (x1 - x2) else x1 - x2))).den I v → (aggS (canQ (dist x1 x2))).den I v from fun I v h => by rw [abs_dist] at h; exact h)) rfl rfl rfl ?_
  refine Run.one (ok_fieldAddr_eq rfl rfl rfl) rfl rfl rfl ?_
  refine Run.one (ok_load_own_agg 0 rfl rfl rfl rfl rfl) rfl rfl rfl ?_
  refine Run.one ((ok_call rfl rfl (rabs_spec (by omega))).sub (show ∀ I v, (aggS (canQ (if y1 - y2 < 0 then 0 - (y1 - y2) else y1 - y2))).den I v → (aggS (canQ (dist y1 y2))).den I v from fun I v h => by rw [abs_dist] at h; exact h)) rfl rfl rfl ?_
  refine Run.one (ok_buildSlice rfl rfl (by decide) rfl (by simp) rfl rfl) rfl rfl rfl ?_
  refine Run.one (ok_call rfl rfl (rqadd2_spec (by omega))) rfl rfl rfl ?_
  refine Run.nil ?_
  refine Run.store 1 rfl rfl rfl rfl rfl rfl rfl rfl rfl ?_
  refine Run.nil ?_
  refine T_ret ?_
  exact ⟨_, [], .one (.agg 1 inferInstance rfl rfl rfl rfl), List.nil_sublist _, rfl, rfl⟩
theorem rpCmp_spec {b1 c1 : Bool} {l1 d1 m1 e1 : List Nat} {x1 y1 : Rat} {k1 j1 : Nat} [hx1 : IsQ b1 l1 d1 x1 k1] [hy1 : IsQ c1 m1 e1 y1 j1] {b2 c2 : Bool} {l2 d2 m2 e2 : List Nat} {x2 y2 : Rat} {k2 j2 : Nat} [hx2 : IsQ b2 l2 d2 x2 k2] [hy2 : IsQ c2 m2 e2 y2 j2] (hs : 64 * (k1 + j1 + k2 + j2) + 23000 ≤ 65536 := by decide) : PSpec Tryz.prog G 42 [aggS [boolS b1, natS l1, natS d1, boolS c1, natS m1, natS e1], aggS [boolS b2, natS l2, natS d2, boolS c2, natS m2, natS e2]] (intS .i64 (triP x1 y1 x2 y2)) := by
  refine fn_spec Tryz.func42 rfl rfl rfl ?_
  refine T_regionS ?_
  refine Run.one (ok_box rfl rfl) rfl rfl rfl ?_
  refine Run.one (ok_box rfl rfl) rfl rfl rfl ?_
  refine Run.one (ok_assign rfl rfl) rfl rfl rfl ?_
  refine Run.nil ?_
  refine T_regionS ?_
  refine Run.one (ok_fieldAddr rfl rfl rfl) rfl rfl rfl ?_
  refine Run.one (ok_load_agg rfl rfl rfl rfl) rfl rfl rfl ?_
  refine Run.one (ok_fieldAddr rfl rfl rfl) rfl rfl rfl ?_
  refine Run.one (ok_load_agg rfl rfl rfl rfl) rfl rfl rfl ?_
  refine Run.one (ok_call rfl rfl (rqcmp_spec (by omega))) rfl rfl rfl ?_
  refine Run.one (ok_assign rfl rfl) rfl rfl rfl ?_
  refine Run.nil ?_
  refine T_seq ?_
  refine T_regionS ?_
  refine Run.one (ok_move rfl rfl) rfl rfl rfl ?_
  refine Run.one (ok_cmp rfl rfl rfl rfl) rfl rfl rfl ?_
  refine Run.nil ?_
  refine T_cond rfl rfl (fun h12 => ?_) (fun h12 => ?_)
  · have k12 := bne_iff_ne.1 h12
    refine T_regionS ?_
    refine Run.one (ok_move rfl rfl) rfl rfl rfl ?_
    refine Run.one (ok_assign rfl rfl) rfl rfl rfl ?_
    refine Run.nil ?_
    refine T_ret ?_
    exact ⟨_, [], .one (.tmp rfl), List.nil_sublist _, by unfold triP; rw [if_neg k12], rfl⟩
  · have k12 := bne_eq_false_iff_eq.1 h12
    refine T_skip ?_
    refine T_regionS ?_
    refine Run.one (ok_fieldAddr rfl rfl rfl) rfl rfl rfl ?_
    refine Run.one (ok_load_agg rfl rfl rfl rfl) rfl rfl rfl ?_
    refine Run.one (ok_fieldAddr rfl rfl rfl) rfl rfl rfl ?_
    refine Run.one (ok_load_agg rfl rfl rfl rfl) rfl rfl rfl ?_
    refine Run.one (ok_call rfl rfl (rqcmp_spec (by omega))) rfl rfl rfl ?_
    refine Run.one (ok_assign rfl rfl) rfl rfl rfl ?_
    refine Run.nil ?_
    refine T_ret ?_
    exact ⟨_, [], .one (.tmp rfl), List.nil_sublist _, by unfold triP; rw [if_pos k12], rfl⟩
theorem rpNorm_spec {xs : List ((Bool × List Nat × List Nat) × (Bool × List Nat × List Nat))} {k : Nat} (hk : 0 < k) (hl : ∀ p ∈ xs, PtOk k p) (hs : 64 * k + 20000 ≤ 65536) (hxl : xs.length ≤ cap) : PSpec Tryz.prog G 44 [slS 6 pc xs] (slS 6 pcan (xs.map pv)) := by
  unfold cap at hxl
  refine fn_spec Tryz.func44 rfl rfl rfl ?_
  refine T_regionS ?_
  refine Run.one (ok_assign rfl rfl) rfl rfl rfl ?_
  refine Run.nil ?_
  refine T_regionS ?_
  refine Run.one (ok_assign rfl rfl) rfl rfl rfl ?_
  refine Run.nil ?_
  refine T_seq ?_
  refine T_regionS ?_
  refine Run.one (ok_assign rfl rfl) rfl rfl rfl ?_
  refine Run.nil ?_
  refine T_block ?_
  refine T_ghost (ghost_row 29 6) ?_
  refine T_loop2 (fun (i : Nat) (q : Option (Nat × Nat)) => ⟨_, [(4, intS .i64 (i : Nat)), (3, eqS (rowV q i)), (0, slS 6 pc xs)], [rowE q 29 6 i (((xs.take i).map pv).flatMap pcan)], [], (0, false)⟩)
      (fun i q => i ≤ xs.length ∧ rowOk q i) (fun i q => xs.length - i)
      0 none ⟨Nat.zero_le _, rfl⟩ (ent_h (subG_cons rfl (subG_cons rfl (subG_cons rfl (trivial)))) rfl) ?_
  rintro i q ⟨hi, hq⟩
  refine T_seq ?_
  refine T_regionS ?_
  refine Run.one (ok_move rfl rfl) rfl rfl rfl ?_
  refine Run.one (ok_move rfl rfl) rfl rfl rfl ?_
  refine Run.one (ok_len rfl rfl) rfl rfl rfl ?_
  refine Run.one (ok_cmp rfl rfl rfl rfl) rfl rfl rfl ?_
  refine Run.nil ?_
  refine T_cond rfl rfl (fun h8 => ?_) (fun h8 => ?_)
  · have k8 := of_decide_eq_true h8
    obtain ⟨⟨⟨b, l, d⟩, ⟨c, m, e⟩⟩, hp⟩ : ∃ p, xs[i]? = some p := ⟨_, List.getElem?_eq_getElem (by omega)⟩
    have hpm := hl _ (List.mem_of_getElem? hp)
    have i1 : IsQ b l d (qv (b, l, d)) k := isQ_lim hpm.1 hk
    have i2 : IsQ c m e (qv (c, m, e)) k := isQ_lim hpm.2 hk
    have htk : (xs.take (i + 1)).map pv = (xs.take i).map pv ++ [(qv (b, l, d), qv (c, m, e))] := by rw [List.take_add_one, hp]; simp [pv]
    refine T_skip ?_
    refine T_seq ?_
    refine T_block ?_
    refine T_draw 15 (by kernel_rfl) ?_
    refine Run.one (ok_move rfl rfl) rfl rfl rfl ?_
    refine Run.one (ok_move rfl rfl) rfl rfl rfl ?_
    refine Run.one (ok_move rfl rfl) rfl rfl rfl ?_
    refine Run.one (ok_indexAddr rfl rfl rfl (by omega) (y := ((b, l, d), (c, m, e))) (hp)) rfl rfl rfl ?_
    refine Run.one (ok_fieldAddr rfl rfl rfl) rfl rfl rfl ?_
    refine Run.one ((show OpOK _ _ _ _ _ (aggS [boolS b, natS l, natS d]) from ok_load_agg rfl rfl rfl rfl)) rfl rfl rfl ?_
    refine Run.one (ok_call rfl rfl (rqNorm_spec hs)) rfl rfl rfl ?_
    refine Run.one (ok_move rfl rfl) rfl rfl rfl ?_
    refine Run.one (ok_move rfl rfl) rfl rfl rfl ?_
    refine Run.one (ok_indexAddr rfl rfl rfl (by omega) (y := ((b, l, d), (c, m, e))) (hp)) rfl rfl rfl ?_
    refine Run.one (ok_fieldAddr rfl rfl rfl) rfl rfl rfl ?_
    refine Run.one ((show OpOK _ _ _ _ _ (aggS [boolS c, natS m, natS e]) from ok_load_agg rfl rfl rfl rfl)) rfl rfl rfl ?_
    refine Run.one (ok_call rfl rfl (rqNorm_spec hs)) rfl rfl rfl ?_
    refine Run.one (ok_build rfl rfl rfl) rfl rfl rfl ?_
    refine Run.one (ok_buildSlice rfl rfl (by decide) rfl (by simp) rfl rfl) rfl rfl rfl ?_
    refine Run.nil ?_
    refine Run.append 0 rfl rfl rfl rfl rfl rfl rfl rfl hq (by rw [flat_pcan]; simp; omega) (fun z hz => by rw [List.mem_singleton.1 hz]; rfl) (by unfold big; simp; omega) (by unfold big; simp; omega) fun q20 hq20 => ?_
    refine Run.one (ok_assign rfl rfl) rfl rfl rfl ?_
    refine Run.nil ?_
    refine T_region ?_
    refine Run.one (ok_move rfl rfl) rfl rfl rfl ?_
    refine Run.one (ok_ari (z := ((i + 1 : Nat) : Int)) rfl rfl rfl (congrArg some (by omega)) (wrap_i64 (by omega) (by omega))) rfl rfl rfl ?_
    refine Run.one (ok_assign rfl rfl) rfl rfl rfl ?_
    refine Run.nil ?_
    exact ⟨i + 1, q20, ⟨by omega, hq20⟩, by omega, ent_h (subG_cons rfl (subG_cons rfl (subG_cons rfl (trivial)))) (by rw [htk, List.flatMap_append]; rfl)⟩
  · have k8 := of_decide_eq_false h8
    have hie : i = xs.length := by omega
    subst hie
    refine T_exit ?_
    refine T_ghost (ghost_sl 0 3 rfl rfl hq (l := (xs.take xs.length).map pv) (f := pcan) (by simp) rfl (fun _ _ => rfl) (by unfold big; omega)) ?_
    refine T_regionS ?_
    refine Run.one (ok_move rfl rfl) rfl rfl rfl ?_
    refine Run.one (ok_assign rfl rfl) rfl rfl rfl ?_
    refine Run.nil ?_
    refine T_ret ?_
    exact ⟨_, [], .one (.tmp rfl), List.nil_sublist _, by rw [List.take_length], rfl⟩
theorem rpSame_spec {b1 c1 : Bool} {l1 d1 m1 e1 : List Nat} {x1 y1 : Rat} {k1 j1 : Nat} [hx1 : IsQ b1 l1 d1 x1 k1] [hy1 : IsQ c1 m1 e1 y1 j1] {b2 c2 : Bool} {l2 d2 m2 e2 : List Nat} {x2 y2 : Rat} {k2 j2 : Nat} [hx2 : IsQ b2 l2 d2 x2 k2] [hy2 : IsQ c2 m2 e2 y2 j2] (hs : 64 * (k1 + j1 + k2 + j2) + 23000 ≤ 65536 := by decide) : PSpec Tryz.prog G 43 [aggS [boolS b1, natS l1, natS d1, boolS c1, natS m1, natS e1], aggS [boolS b2, natS l2, natS d2, boolS c2, natS m2, natS e2]] (boolS (decide (x1 = x2 ∧ y1 = y2))) := by
  refine fn_spec Tryz.func43 rfl rfl rfl ?_
  refine T_regionS ?_
  refine Run.one (ok_box rfl rfl) rfl rfl rfl ?_
  refine Run.one (ok_box rfl rfl) rfl rfl rfl ?_
  refine Run.one (ok_assign rfl rfl) rfl rfl rfl ?_
  refine Run.nil ?_
  refine T_regionS ?_
  refine Run.one (ok_load_agg rfl rfl rfl rfl) rfl rfl rfl ?_
  refine Run.one (ok_load_agg rfl rfl rfl rfl) rfl rfl rfl ?_
  refine Run.one (ok_call rfl rfl (rpCmp_spec hs)) rfl rfl rfl ?_
  refine Run.one ((ok_cmp rfl rfl rfl rfl).sub (bool_eq triP_zero)) rfl rfl rfl ?_
  refine Run.one (ok_assign rfl rfl) rfl rfl rfl ?_
  refine Run.nil ?_
  refine T_ret ?_
  exact ⟨_, [], .one (.tmp rfl), List.nil_sublist _, rfl, rfl⟩
theorem rpAlike_spec {x1 y1 x2 y2 : Rat} : PSpec Tryz.prog G 31 [aggS (canP x1 y1), aggS (canP x2 y2)] (boolS (decide (x1 = x2 ∧ y1 = y2))) := by
  refine fn_spec Tryz.func31 rfl rfl rfl ?_
  refine T_regionS ?_
  refine Run.one (ok_box rfl rfl) rfl rfl rfl ?_
  refine Run.one (ok_box rfl rfl) rfl rfl rfl ?_
  refine Run.one (ok_assign rfl rfl) rfl rfl rfl ?_
  refine Run.nil ?_
  refine T_regionS ?_
  refine Run.one (ok_fieldAddr rfl rfl rfl) rfl rfl rfl ?_
  refine Run.one (ok_load_agg rfl rfl rfl rfl) rfl rfl rfl ?_
  refine Run.one (ok_fieldAddr rfl rfl rfl) rfl rfl rfl ?_
  refine Run.one (ok_load_agg rfl rfl rfl rfl) rfl rfl rfl ?_
  refine Run.oneB (ok_call rfl rfl toldq_spec) rfl rfl rfl (fun h1_4 => ?_) (fun h1_4 => ?_)
  · refine Run.one (ok_move rfl rfl) rfl rfl rfl ?_
    refine Run.one (ok_fieldAddr rfl rfl rfl) ⟨_, _, rfl, rfl, rfl⟩ rfl rfl ?_
    refine Run.one (ok_load_agg rfl rfl rfl rfl) ⟨_, _, rfl, rfl, rfl⟩ rfl rfl ?_
    refine Run.one (ok_fieldAddr rfl rfl rfl) ⟨_, _, rfl, rfl, rfl⟩ rfl rfl ?_
    refine Run.one (ok_load_agg rfl rfl rfl rfl) ⟨_, _, rfl, rfl, rfl⟩ rfl rfl ?_
    refine Run.one (ok_call rfl rfl toldq_spec) ⟨_, _, rfl, rfl, rfl⟩ rfl rfl ?_
    refine Run.one (ok_pick rfl rfl rfl) rfl rfl rfl ?_
    refine Run.one (ok_assign rfl rfl) rfl rfl rfl ?_
    refine Run.nil ?_
    refine T_ret ?_
    exact ⟨_, [], .one (.tmp rfl), List.nil_sublist _, congrArg boolS (decide_eq_decide.2 ⟨fun h => ⟨of_decide_eq_true h1_4, h⟩, fun h => h.2⟩), rfl⟩
  · refine Run.one (ok_move rfl rfl) rfl rfl rfl ?_
    refine Run.no ⟨_, _, rfl, rfl, rfl⟩ rfl rfl ?_
    refine Run.no ⟨_, _, rfl, rfl, rfl⟩ rfl rfl ?_
    refine Run.no ⟨_, _, rfl, rfl, rfl⟩ rfl rfl ?_
    refine Run.no ⟨_, _, rfl, rfl, rfl⟩ rfl rfl ?_
    refine Run.no ⟨_, _, rfl, rfl, rfl⟩ rfl rfl ?_
    refine Run.one (ok_pick rfl rfl rfl) rfl rfl rfl ?_
    refine Run.one (ok_assign rfl rfl) rfl rfl rfl ?_
    refine Run.nil ?_
    refine T_ret ?_
    exact ⟨_, [], .one (.tmp rfl), List.nil_sublist _, congrArg boolS (decide_eq_false (fun h => of_decide_eq_false h1_4 h.1)).symm, rfl⟩
theorem rpAll_spec {xs ys : List (Rat × Rat)} : PSpec Tryz.prog G 28 [slS 6 pcan xs, slS 6 pcan ys] (boolS (decide (xs = ys))) := by
  refine fn_spec Tryz.func28 rfl rfl rfl ?_
  refine T_len 0 rfl fun ha => T_len 1 rfl fun hb => ?_
  unfold big at ha hb
  refine T_regionS ?_
  refine Run.one (ok_assign rfl rfl) rfl rfl rfl ?_
  refine Run.nil ?_
  refine T_seq ?_
  refine T_regionS ?_
  refine Run.one (ok_move rfl rfl) rfl rfl rfl ?_
  refine Run.one (ok_len rfl rfl) rfl rfl rfl ?_
  refine Run.one (ok_move rfl rfl) rfl rfl rfl ?_
  refine Run.one (ok_len rfl rfl) rfl rfl rfl ?_
  refine Run.one (ok_cmp rfl rfl rfl rfl) rfl rfl rfl ?_
  refine Run.nil ?_
  refine T_cond rfl rfl (fun h10 => ?_) (fun h10 => ?_)
  · have k10 := bne_iff_ne.1 h10
    refine T_regionS ?_
    refine Run.one (ok_assign rfl rfl) rfl rfl rfl ?_
    refine Run.nil ?_
    refine T_ret ?_
    exact ⟨_, [], .one (.tmp rfl), List.nil_sublist _, congrArg boolS (decide_eq_false (fun h => k10 (by rw [h]))).symm, rfl⟩
  · have k10 := bne_eq_false_iff_eq.1 h10
    refine T_skip ?_
    refine T_seq ?_
    refine T_regionS ?_
    refine Run.one (ok_assign rfl rfl) rfl rfl rfl ?_
    refine Run.nil ?_
    refine T_block ?_
    refine T_loop (γ := Nat) (fun i => ⟨_, [(5, intS .i64 (i : Nat)), (1, slS 6 pcan ys), (0, slS 6 pcan xs)], [], [], (0, false)⟩) (fun i => i ≤ xs.length ∧ ∀ j, j < i → xs[j]? = ys[j]?) (fun i => xs.length - i) 0 ⟨Nat.zero_le _, fun j h => by omega⟩ (ent_g (subG_cons rfl (subG_cons rfl (subG_cons rfl (trivial))))) ?_
    rintro i ⟨hi, hz⟩
    refine T_seq ?_
    refine T_regionS ?_
    refine Run.one (ok_move rfl rfl) rfl rfl rfl ?_
    refine Run.one (ok_move rfl rfl) rfl rfl rfl ?_
    refine Run.one (ok_len rfl rfl) rfl rfl rfl ?_
    refine Run.one (ok_cmp rfl rfl rfl rfl) rfl rfl rfl ?_
    refine Run.nil ?_
    refine T_cond rfl rfl (fun h14 => ?_) (fun h14 => ?_)
    · have k14 := of_decide_eq_true h14
      have hl : xs.length = ys.length := by omega
      obtain ⟨⟨x1, y1⟩, hx⟩ : ∃ p, xs[i]? = some p := ⟨_, List.getElem?_eq_getElem (by omega)⟩
      obtain ⟨⟨x2, y2⟩, hy⟩ : ∃ p, ys[i]? = some p := ⟨_, List.getElem?_eq_getElem (by omega)⟩
      refine T_skip ?_
      refine T_seq ?_
      refine T_block ?_
      refine T_drawS 10 (by kernel_rfl) ?_
      refine Run.one (ok_move rfl rfl) rfl rfl rfl ?_
      refine Run.one (ok_move rfl rfl) rfl rfl rfl ?_
      refine Run.one (ok_indexAddr rfl rfl rfl (by omega) (y := (x1, y1)) (hx)) rfl rfl rfl ?_
      refine Run.one (ok_load_agg rfl rfl rfl rfl) rfl rfl rfl ?_
      refine Run.one (ok_move rfl rfl) rfl rfl rfl ?_
      refine Run.one (ok_move rfl rfl) rfl rfl rfl ?_
      refine Run.one (ok_indexAddr rfl rfl rfl (by omega) (y := (x2, y2)) (hy)) rfl rfl rfl ?_
      refine Run.one (ok_load_agg rfl rfl rfl rfl) rfl rfl rfl ?_
      refine Run.one (ok_call rfl rfl rpAlike_spec) rfl rfl rfl ?_
      refine Run.one (ok_not rfl rfl) rfl rfl rfl ?_
      refine Run.nil ?_
      refine Run.nil ?_
      refine T_cond rfl rfl (fun h26 => ?_) (fun h26 => ?_)
      · refine T_regionS ?_
        refine Run.one (ok_assign rfl rfl) rfl rfl rfl ?_
        refine Run.nil ?_
        refine T_ret ?_
        exact ⟨_, [], .one (.tmp rfl), List.nil_sublist _, congrArg boolS (decide_eq_false (fun h => by rw [h, hy] at hx; cases hx; simp at h26)).symm, rfl⟩
      · refine T_skip ?_
        refine T_region ?_
        refine Run.one (ok_move rfl rfl) rfl rfl rfl ?_
        refine Run.one (ok_ari (z := ((i + 1 : Nat) : Int)) rfl rfl rfl (congrArg some (by omega)) (wrap_i64 (by omega) (by omega))) rfl rfl rfl ?_
        refine Run.one (ok_assign rfl rfl) rfl rfl rfl ?_
        refine Run.nil ?_
        refine ⟨i + 1, ⟨by omega, fun j hj => ?_⟩, by omega, ent_g (subG_cons rfl (subG_cons rfl (subG_cons rfl (trivial))))⟩
        have h26b : decide (x1 = x2 ∧ y1 = y2) = true := by simpa using h26
        obtain ⟨e1, e2⟩ := of_decide_eq_true h26b
        rcases Nat.lt_or_ge j i with h | h
        · exact hz j h
        · rw [show j = i by omega, hx, hy, e1, e2]
    · have k14 := of_decide_eq_false h14
      refine T_exit ?_
      refine T_regionS ?_
      refine Run.one (ok_assign rfl rfl) rfl rfl rfl ?_
      refine Run.nil ?_
      refine T_ret ?_
      exact ⟨_, [], .one (.tmp rfl), List.nil_sublist _, congrArg boolS (decide_eq_true (List.ext_getElem? fun j => by
        rcases Nat.lt_or_ge j i with h | h
        · exact hz j h
        · rw [List.getElem?_eq_none (by omega), List.getElem?_eq_none (by omega)])).symm, rfl⟩
theorem rpGreat_spec {xs : List ((Bool × List Nat × List Nat) × (Bool × List Nat × List Nat))} : PSpec Tryz.prog G 29 [slS 6 pc xs] (boolS (decide (60 < xs.length ∨ ∃ p ∈ xs, 6 < psz p))) := by
  refine fn_spec Tryz.func29 rfl rfl rfl ?_
  refine T_regionS ?_
  refine Run.one (ok_assign rfl rfl) rfl rfl rfl ?_
  refine Run.nil ?_
  refine T_seq ?_
  refine T_regionS ?_
  refine Run.one (ok_assign rfl rfl) rfl rfl rfl ?_
  refine Run.nil ?_
  refine T_block ?_
  refine T_len 0 rfl fun ha => ?_
  unfold big at ha
  refine T_loop (γ := Nat) (fun i => ⟨_, [(3, intS .i64 (i : Nat)), (0, slS 6 pc xs)], [], [], (0, false)⟩) (fun i => i ≤ xs.length ∧ i ≤ 61 ∧ ∀ j p, j < i → xs[j]? = some p → psz p ≤ 6) (fun i => xs.length - i) 0 ⟨Nat.zero_le _, by decide, fun j p h => by omega⟩ (ent_g (subG_cons rfl (subG_cons rfl (trivial)))) ?_
  rintro i ⟨hi, hi2, hz⟩
  refine T_seq ?_
  refine T_regionS ?_
  refine Run.one (ok_move rfl rfl) rfl rfl rfl ?_
  refine Run.one (ok_move rfl rfl) rfl rfl rfl ?_
  refine Run.one (ok_len rfl rfl) rfl rfl rfl ?_
  refine Run.oneB (ok_cmp rfl rfl rfl rfl) rfl rfl rfl (fun h2_3 => ?_) (fun h2_3 => ?_)
  · have k2_3 := of_decide_eq_true h2_3
    refine Run.one (ok_move rfl rfl) rfl rfl rfl ?_
    refine Run.one (ok_move rfl rfl) ⟨_, _, rfl, rfl, rfl⟩ rfl rfl ?_
    refine Run.one (ok_cmp rfl rfl rfl rfl) ⟨_, _, rfl, rfl, rfl⟩ rfl rfl ?_
    refine Run.one (ok_pick rfl rfl rfl) rfl rfl rfl ?_
    refine Run.nil ?_
    refine T_cond rfl rfl (fun h11 => ?_) (fun h11 => ?_)
    · have k11 := of_decide_eq_true h11
      refine T_skip ?_
      refine T_seq ?_
      refine T_block ?_
      refine T_drawS 32 (by kernel_rfl) ?_
      obtain ⟨⟨⟨b, l, d⟩, ⟨c, m, e⟩⟩, hp⟩ : ∃ p, xs[i]? = some p := ⟨_, List.getElem?_eq_getElem (by omega)⟩
      have hpm := List.mem_of_getElem? hp
      obtain ⟨sz, hsz⟩ : ∃ sz, sz = psz ((b, l, d), (c, m, e)) := ⟨_, rfl⟩
      have hsz2 : sz = max (max (max l.length d.length) m.length) e.length := hsz
      refine Run.one (ok_move rfl rfl) rfl rfl rfl ?_
      refine Run.one (ok_move rfl rfl) rfl rfl rfl ?_
      refine Run.one (ok_indexAddr rfl rfl rfl (by omega) (y := ((b, l, d), (c, m, e))) (hp)) rfl rfl rfl ?_
      refine Run.one (ok_fieldAddr rfl rfl rfl) rfl rfl rfl ?_
      refine Run.one (ok_fieldAddr rfl rfl rfl) rfl rfl rfl ?_
      refine Run.one (ok_fieldAddr rfl rfl rfl) rfl rfl rfl ?_
      refine Run.one (ok_load rfl rfl) rfl rfl rfl ?_
      refine Run.one (ok_len rfl rfl) rfl rfl rfl ?_
      refine Run.one (ok_move rfl rfl) rfl rfl rfl ?_
      refine Run.one (ok_move rfl rfl) rfl rfl rfl ?_
      refine Run.one (ok_indexAddr rfl rfl rfl (by omega) (y := ((b, l, d), (c, m, e))) (hp)) rfl rfl rfl ?_
      refine Run.one (ok_fieldAddr rfl rfl rfl) rfl rfl rfl ?_
      refine Run.one (ok_fieldAddr rfl rfl rfl) rfl rfl rfl ?_
      refine Run.one (ok_load rfl rfl) rfl rfl rfl ?_
      refine Run.one (ok_len rfl rfl) rfl rfl rfl ?_
      refine Run.one (ok_move rfl rfl) rfl rfl rfl ?_
      refine Run.one (ok_move rfl rfl) rfl rfl rfl ?_
      refine Run.one (ok_indexAddr rfl rfl rfl (by omega) (y := ((b, l, d), (c, m, e))) (hp)) rfl rfl rfl ?_
      refine Run.one (ok_fieldAddr rfl rfl rfl) rfl rfl rfl ?_
      refine Run.one (ok_fieldAddr rfl rfl rfl) rfl rfl rfl ?_
      refine Run.one (ok_fieldAddr rfl rfl rfl) rfl rfl rfl ?_
      refine Run.one (ok_load rfl rfl) rfl rfl rfl ?_
      refine Run.one (ok_len rfl rfl) rfl rfl rfl ?_
      refine Run.one (ok_move rfl rfl) rfl rfl rfl ?_
      refine Run.one (ok_move rfl rfl) rfl rfl rfl ?_
      refine Run.one (ok_indexAddr rfl rfl rfl (by omega) (y := ((b, l, d), (c, m, e))) (hp)) rfl rfl rfl ?_
      refine Run.one (ok_fieldAddr rfl rfl rfl) rfl rfl rfl ?_
      refine Run.one (ok_fieldAddr rfl rfl rfl) rfl rfl rfl ?_
      refine Run.one (ok_load rfl rfl) rfl rfl rfl ?_
      refine Run.one (ok_len rfl rfl) rfl rfl rfl ?_
      refine Run.one ((ok_max4 rfl rfl rfl rfl rfl).sub (int_eq (n := ((sz : Nat) : Int)) (by simp only [hsz2]; omega))) rfl rfl rfl ?_
      refine Run.one (ok_cmp rfl rfl rfl rfl) rfl rfl rfl ?_
      refine Run.nil ?_
      refine Run.nil ?_
      refine T_cond rfl rfl (fun h45 => ?_) (fun h45 => ?_)
      · have k45 := of_decide_eq_true h45
        refine T_regionS ?_
        refine Run.one (ok_assign rfl rfl) rfl rfl rfl ?_
        refine Run.nil ?_
        refine T_ret ?_
        exact ⟨_, [], .one (.tmp rfl), List.nil_sublist _, congrArg boolS (decide_eq_true (.inr ⟨_, hpm, by rw [← hsz]; omega⟩)).symm, rfl⟩
      · have k45 := of_decide_eq_false h45
        refine T_skip ?_
        refine T_region ?_
        refine Run.one (ok_move rfl rfl) rfl rfl rfl ?_
        refine Run.one (ok_ari (z := ((i + 1 : Nat) : Int)) rfl rfl rfl (congrArg some (by omega)) (wrap_i64 (by omega) (by omega))) rfl rfl rfl ?_
        refine Run.one (ok_assign rfl rfl) rfl rfl rfl ?_
        refine Run.nil ?_
        refine ⟨i + 1, ⟨by omega, ?_, fun j p hj hpj => ?_⟩, by omega, ent_g (subG_cons rfl (subG_cons rfl (trivial)))⟩
        · omega
        rcases Nat.lt_or_ge j i with h | h
        · exact hz j p h hpj
        · rw [show j = i by omega, hp] at hpj; cases hpj; rw [← hsz]; omega
    · have k11 := of_decide_eq_false h11
      refine T_exit ?_
      refine T_regionS ?_
      refine Run.one (ok_move rfl rfl) rfl rfl rfl ?_
      refine Run.one (ok_len rfl rfl) rfl rfl rfl ?_
      refine Run.one ((ok_cmp rfl rfl rfl rfl).sub (bool_eq (c := decide (60 < xs.length ∨ ∃ p ∈ xs, 6 < psz p)) (decide_eq_decide.2 ⟨fun h => .inl (by omega), fun h => by rcases h with h | h; omega; omega⟩))) rfl rfl rfl ?_
      refine Run.one (ok_assign rfl rfl) rfl rfl rfl ?_
      refine Run.nil ?_
      refine T_ret ?_
      exact ⟨_, [], .one (.tmp rfl), List.nil_sublist _, rfl, rfl⟩
  · have k2_3 := of_decide_eq_false h2_3
    refine Run.one (ok_move rfl rfl) rfl rfl rfl ?_
    refine Run.no ⟨_, _, rfl, rfl, rfl⟩ rfl rfl ?_
    refine Run.no ⟨_, _, rfl, rfl, rfl⟩ rfl rfl ?_
    refine Run.one (ok_pick rfl rfl rfl) rfl rfl rfl ?_
    refine Run.nil ?_
    refine T_condF rfl rfl ?_
    refine T_exit ?_
    refine T_regionS ?_
    refine Run.one (ok_move rfl rfl) rfl rfl rfl ?_
    refine Run.one (ok_len rfl rfl) rfl rfl rfl ?_
    refine Run.one ((ok_cmp rfl rfl rfl rfl).sub (bool_eq (c := decide (60 < xs.length ∨ ∃ p ∈ xs, 6 < psz p)) (decide_eq_decide.2 ⟨fun h => .inl (by omega), fun h => by rcases h with h | ⟨p, hp, h⟩; omega; obtain ⟨j, hj⟩ := List.getElem?_of_mem hp; have := hz j p (by have := lt_of_get hj; omega) hj; omega⟩))) rfl rfl rfl ?_
    refine Run.one (ok_assign rfl rfl) rfl rfl rfl ?_
    refine Run.nil ?_
    refine T_ret ?_
    exact ⟨_, [], .one (.tmp rfl), List.nil_sublist _, rfl, rfl⟩
theorem great_spec {b : Bool} {l d : List Nat} : PSpec Tryz.prog G 30 [aggS [boolS b, natS l, natS d]] (boolS (decide (6 < max l.length d.length))) := by
  refine fn_spec Tryz.func30 rfl rfl rfl ?_
  refine T_regionS ?_
  refine Run.one (ok_box rfl rfl) rfl rfl rfl ?_
  refine Run.one (ok_assign rfl rfl) rfl rfl rfl ?_
  refine Run.nil ?_
  refine T_regionS ?_
  refine Run.one (ok_fieldAddr rfl rfl rfl) rfl rfl rfl ?_
  refine Run.one (ok_fieldAddr rfl rfl rfl) rfl rfl rfl ?_
  refine Run.one (ok_load rfl rfl) rfl rfl rfl ?_
  refine Run.one (ok_len rfl rfl) rfl rfl rfl ?_
  refine Run.one (ok_fieldAddr rfl rfl rfl) rfl rfl rfl ?_
  refine Run.one (ok_load rfl rfl) rfl rfl rfl ?_
  refine Run.one (ok_len rfl rfl) rfl rfl rfl ?_
  refine Run.one (ok_max rfl rfl rfl) rfl rfl rfl ?_
  refine Run.one ((ok_cmp rfl rfl rfl rfl).sub (bool_eq (c := decide (6 < max l.length d.length)) (decide_eq_decide.2 (by omega)))) rfl rfl rfl ?_
  refine Run.one (ok_assign rfl rfl) rfl rfl rfl ?_
  refine Run.nil ?_
  refine T_ret ?_
  exact ⟨_, [], .one (.tmp rfl), List.nil_sublist _, rfl, rfl⟩
theorem long_spec {xs : List ((Bool × List Nat × List Nat) × (Bool × List Nat × List Nat))} : PSpec Tryz.prog G 7 [slS 6 pc xs] (boolS (decide (∃ p ∈ xs, 3 < psz p))) := by
  refine fn_spec Tryz.func7 rfl rfl rfl ?_
  refine T_regionS ?_
  refine Run.one (ok_assign rfl rfl) rfl rfl rfl ?_
  refine Run.nil ?_
  refine T_seq ?_
  refine T_regionS ?_
  refine Run.one (ok_assign rfl rfl) rfl rfl rfl ?_
  refine Run.nil ?_
  refine T_block ?_
  refine T_len 0 rfl fun ha => ?_
  unfold big at ha
  refine T_loop (γ := Nat) (fun i => ⟨_, [(3, intS .i64 (i : Nat)), (0, slS 6 pc xs)], [], [], (0, false)⟩) (fun i => i ≤ xs.length ∧ ∀ j p, j < i → xs[j]? = some p → psz p ≤ 3) (fun i => xs.length - i) 0 ⟨Nat.zero_le _, fun j p h => by omega⟩ (ent_g (subG_cons rfl (subG_cons rfl (trivial)))) ?_
  rintro i ⟨hi, hz⟩
  refine T_seq ?_
  refine T_regionS ?_
  refine Run.one (ok_move rfl rfl) rfl rfl rfl ?_
  refine Run.one (ok_move rfl rfl) rfl rfl rfl ?_
  refine Run.one (ok_len rfl rfl) rfl rfl rfl ?_
  refine Run.one (ok_cmp rfl rfl rfl rfl) rfl rfl rfl ?_
  refine Run.nil ?_
  refine T_cond rfl rfl (fun h7 => ?_) (fun h7 => ?_)
  · have k7 := of_decide_eq_true h7
    obtain ⟨⟨⟨b, l, d⟩, ⟨c, m, e⟩⟩, hp⟩ : ∃ p, xs[i]? = some p := ⟨_, List.getElem?_eq_getElem (by omega)⟩
    have hpm := List.mem_of_getElem? hp
    obtain ⟨sz, hsz⟩ : ∃ sz, sz = psz ((b, l, d), (c, m, e)) := ⟨_, rfl⟩
    have hsz2 : sz = max (max (max l.length d.length) m.length) e.length := hsz
    refine T_skip ?_
    refine T_seq ?_
    refine T_block ?_
    refine T_drawS 32 (by kernel_rfl) ?_
    refine Run.one (ok_move rfl rfl) rfl rfl rfl ?_
    refine Run.one (ok_move rfl rfl) rfl rfl rfl ?_
    refine Run.one (ok_indexAddr rfl rfl rfl (by omega) (y := ((b, l, d), (c, m, e))) (hp)) rfl rfl rfl ?_
    refine Run.one (ok_fieldAddr rfl rfl rfl) rfl rfl rfl ?_
    refine Run.one (ok_fieldAddr rfl rfl rfl) rfl rfl rfl ?_
    refine Run.one (ok_fieldAddr rfl rfl rfl) rfl rfl rfl ?_
    refine Run.one (ok_load rfl rfl) rfl rfl rfl ?_
    refine Run.one (ok_len rfl rfl) rfl rfl rfl ?_
    refine Run.one (ok_move rfl rfl) rfl rfl rfl ?_
    refine Run.one (ok_move rfl rfl) rfl rfl rfl ?_
    refine Run.one (ok_indexAddr rfl rfl rfl (by omega) (y := ((b, l, d), (c, m, e))) (hp)) rfl rfl rfl ?_
    refine Run.one (ok_fieldAddr rfl rfl rfl) rfl rfl rfl ?_
    refine Run.one (ok_fieldAddr rfl rfl rfl) rfl rfl rfl ?_
    refine Run.one (ok_load rfl rfl) rfl rfl rfl ?_
    refine Run.one (ok_len rfl rfl) rfl rfl rfl ?_
    refine Run.one (ok_move rfl rfl) rfl rfl rfl ?_
    refine Run.one (ok_move rfl rfl) rfl rfl rfl ?_
    refine Run.one (ok_indexAddr rfl rfl rfl (by omega) (y := ((b, l, d), (c, m, e))) (hp)) rfl rfl rfl ?_
    refine Run.one (ok_fieldAddr rfl rfl rfl) rfl rfl rfl ?_
    refine Run.one (ok_fieldAddr rfl rfl rfl) rfl rfl rfl ?_
    refine Run.one (ok_fieldAddr rfl rfl rfl) rfl rfl rfl ?_
    refine Run.one (ok_load rfl rfl) rfl rfl rfl ?_
    refine Run.one (ok_len rfl rfl) rfl rfl rfl ?_
    refine Run.one (ok_move rfl rfl) rfl rfl rfl ?_
    refine Run.one (ok_move rfl rfl) rfl rfl rfl ?_
    refine Run.one (ok_indexAddr rfl rfl rfl (by omega) (y := ((b, l, d), (c, m, e))) (hp)) rfl rfl rfl ?_
    refine Run.one (ok_fieldAddr rfl rfl rfl) rfl rfl rfl ?_
    refine Run.one (ok_fieldAddr rfl rfl rfl) rfl rfl rfl ?_
    refine Run.one (ok_load rfl rfl) rfl rfl rfl ?_
    refine Run.one (ok_len rfl rfl) rfl rfl rfl ?_
    refine Run.one ((ok_max4 rfl rfl rfl rfl rfl).sub (int_eq (n := ((sz : Nat) : Int)) (by simp only [hsz2]; omega))) rfl rfl rfl ?_
    refine Run.one (ok_cmp rfl rfl rfl rfl) rfl rfl rfl ?_
    refine Run.nil ?_
    refine Run.nil ?_
    refine T_cond rfl rfl (fun h41 => ?_) (fun h41 => ?_)
    · have k41 := of_decide_eq_true h41
      refine T_regionS ?_
      refine Run.one (ok_assign rfl rfl) rfl rfl rfl ?_
      refine Run.nil ?_
      refine T_ret ?_
      exact ⟨_, [], .one (.tmp rfl), List.nil_sublist _, congrArg boolS (decide_eq_true ⟨_, hpm, by rw [← hsz]; omega⟩).symm, rfl⟩
    · have k41 := of_decide_eq_false h41
      refine T_skip ?_
      refine T_region ?_
      refine Run.one (ok_move rfl rfl) rfl rfl rfl ?_
      refine Run.one (ok_ari (z := ((i + 1 : Nat) : Int)) rfl rfl rfl (congrArg some (by omega)) (wrap_i64 (by omega) (by omega))) rfl rfl rfl ?_
      refine Run.one (ok_assign rfl rfl) rfl rfl rfl ?_
      refine Run.nil ?_
      refine ⟨i + 1, ⟨by omega, fun j p hj hpj => ?_⟩, by omega, ent_g (subG_cons rfl (subG_cons rfl (trivial)))⟩
      rcases Nat.lt_or_ge j i with h | h
      · exact hz j p h hpj
      · rw [show j = i by omega, hp] at hpj; cases hpj; rw [← hsz]; omega
  · have k7 := of_decide_eq_false h7
    refine T_exit ?_
    refine T_regionS ?_
    refine Run.one (ok_assign rfl rfl) rfl rfl rfl ?_
    refine Run.nil ?_
    refine T_ret ?_
    exact ⟨_, [], .one (.tmp rfl), List.nil_sublist _, congrArg boolS (decide_eq_false (fun ⟨p, hp, h⟩ => by obtain ⟨j, hj⟩ := List.getElem?_of_mem hp; have := hz j p (by have := lt_of_get hj; omega) hj; omega)).symm, rfl⟩
theorem wakes_spec [Tab G] : PSpec Tryz.prog G 8 [] (boolS true) := by
  refine fn_spec Tryz.func8 rfl rfl rfl ?_
  refine T_regionS ?_
  refine Run.one (ok_assign rfl rfl) rfl rfl rfl ?_
  refine Run.nil ?_
  refine T_regionS ?_
  refine Run.one (ok_call rfl rfl (rqOf_spec (n := 0) (q := 0) (by decide) (by decide))) rfl rfl rfl ?_
  refine Run.one (ok_call rfl rfl (rqOf_spec (n := 1) (q := 1) (by decide) (by decide))) rfl rfl rfl ?_
  refine Run.one (ok_call rfl rfl rqmid_spec) rfl rfl rfl ?_
  refine Run.alloc rfl rfl rfl rfl rfl fun b1 => ?_
  refine Run.store 0 rfl rfl rfl rfl rfl rfl rfl rfl rfl ?_
  refine Run.nil ?_
  refine T_drawS 32 (by kernel_rfl) ?_
  refine Run.one (ok_call rfl rfl (vOf_spec (n := 1) (m := 0) (p := 1) (q := 0) (by decide) (by decide) (by decide) (by decide))) rfl rfl rfl ?_
  refine Run.one (ok_call rfl rfl (vOf_spec (n := 0) (m := 1) (p := 0) (q := 1) (by decide) (by decide) (by decide) (by decide))) rfl rfl rfl ?_
  refine Run.one (ok_call rfl rfl vCross_spec) rfl rfl rfl ?_
  refine Run.one (ok_call rfl rfl (rqOf_spec (n := 1) (q := 1) (by decide) (by decide))) rfl rfl rfl ?_
  refine Run.one ((ok_call rfl rfl rqsame_spec).sub (bool_eq (c := true) (decide_eq_true (by grind)))) rfl rfl rfl ?_
  refine Run.one (ok_move rfl rfl) rfl rfl rfl ?_
  refine Run.one (ok_call rfl rfl (vOf_spec (n := 1) (m := 2) (p := 1) (q := 2) (by decide) (by decide) (by decide) (by decide))) ⟨_, _, rfl, rfl, rfl⟩ rfl rfl ?_
  refine Run.one (ok_call rfl rfl (vOf_spec (n := 4) (m := -2) (p := 4) (q := -2) (by decide) (by decide) (by decide) (by decide))) ⟨_, _, rfl, rfl, rfl⟩ rfl rfl ?_
  refine Run.one (ok_call rfl rfl vFar_spec) ⟨_, _, rfl, rfl, rfl⟩ rfl rfl ?_
  refine Run.one (ok_call rfl rfl (rqOf_spec (n := 7) (q := 7) (by decide) (by decide))) ⟨_, _, rfl, rfl, rfl⟩ rfl rfl ?_
  refine Run.one ((ok_call rfl rfl rqsame_spec).sub (bool_eq (c := true) (decide_eq_true (by unfold dist; rw [if_pos (by grind), if_neg (by grind)]; grind)))) ⟨_, _, rfl, rfl, rfl⟩ rfl rfl ?_
  refine Run.one (ok_pick rfl rfl rfl) rfl rfl rfl ?_
  refine Run.one (ok_move rfl rfl) rfl rfl rfl ?_
  refine Run.one (ok_call rfl rfl (vOf_spec (n := 0) (m := 0) (p := 0) (q := 0) (by decide) (by decide) (by decide) (by decide))) ⟨_, _, rfl, rfl, rfl⟩ rfl rfl ?_
  refine Run.one (ok_call rfl rfl (vOf_spec (n := 4) (m := 2) (p := 4) (q := 2) (by decide) (by decide) (by decide) (by decide))) ⟨_, _, rfl, rfl, rfl⟩ rfl rfl ?_
  refine Run.one (ok_load_own_agg 0 rfl rfl rfl rfl rfl) ⟨_, _, rfl, rfl, rfl⟩ rfl rfl ?_
  refine Run.one (ok_call rfl rfl vAt_spec) ⟨_, _, rfl, rfl, rfl⟩ rfl rfl ?_
  refine Run.one (ok_call rfl rfl (vOf_spec (n := 2) (m := 1) (p := 2) (q := 1) (by decide) (by decide) (by decide) (by decide))) ⟨_, _, rfl, rfl, rfl⟩ rfl rfl ?_
  refine Run.one ((ok_call rfl rfl rpAlike_spec).sub (bool_eq (c := true) (decide_eq_true (by constructor <;> grind)))) ⟨_, _, rfl, rfl, rfl⟩ rfl rfl ?_
  refine Run.one (ok_pick rfl rfl rfl) rfl rfl rfl ?_
  refine Run.one (ok_move rfl rfl) rfl rfl rfl ?_
  refine Run.one (ok_call rfl rfl (vOf_spec (n := 2) (m := 1) (p := 2) (q := 1) (by decide) (by decide) (by decide) (by decide))) ⟨_, _, rfl, rfl, rfl⟩ rfl rfl ?_
  refine Run.one (ok_call rfl rfl (rpOf_spec (n := 2) (m := 1) (p := 2) (q := 1) (by decide) (by decide) (by decide) (by decide))) ⟨_, _, rfl, rfl, rfl⟩ rfl rfl ?_
  refine Run.one ((ok_call rfl rfl rpAlike_spec).sub (bool_eq (c := true) (decide_eq_true ⟨rfl, rfl⟩))) ⟨_, _, rfl, rfl, rfl⟩ rfl rfl ?_
  refine Run.one (ok_pick rfl rfl rfl) rfl rfl rfl ?_
  refine Run.one (ok_move rfl rfl) rfl rfl rfl ?_
  refine Run.one (ok_call rfl rfl (vOf_spec (n := 1) (m := 2) (p := 1) (q := 2) (by decide) (by decide) (by decide) (by decide))) ⟨_, _, rfl, rfl, rfl⟩ rfl rfl ?_
  refine Run.one (ok_call rfl rfl (vOf_spec (n := 1) (m := 3) (p := 1) (q := 3) (by decide) (by decide) (by decide) (by decide))) ⟨_, _, rfl, rfl, rfl⟩ rfl rfl ?_
  refine Run.one ((ok_call rfl rfl vCmp_spec).sub (int_eq (n := -1) (by unfold triP; rw [if_pos (tri_eq.2 rfl)]; unfold tri; rw [if_pos (by grind)]))) ⟨_, _, rfl, rfl, rfl⟩ rfl rfl ?_
  refine Run.one (ok_cmp rfl rfl rfl rfl) ⟨_, _, rfl, rfl, rfl⟩ rfl rfl ?_
  refine Run.one (ok_pick rfl rfl rfl) rfl rfl rfl ?_
  refine Run.one (ok_assign rfl rfl) rfl rfl rfl ?_
  refine Run.nil ?_
  refine Run.nil ?_
  refine T_ret ?_
  exact ⟨_, [], .one (.tmp rfl), List.nil_sublist _, rfl, rfl⟩
end Go.Proofs
