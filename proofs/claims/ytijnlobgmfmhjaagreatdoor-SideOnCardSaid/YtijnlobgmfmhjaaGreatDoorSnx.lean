/- Points: straitref08; what the laws ask of sizes. -/
import Derived.Test.YtijnlobgmfmhjaaGreatDoorSnw
namespace Go.Proofs
open Go Go.Sv Num
variable {G : Imm}
abbrev psz (p : (Bool × List Nat × List Nat) × (Bool × List Nat × List Nat)) : Nat := max (max (max p.1.2.1.length p.1.2.2.length) p.2.2.1.length) p.2.2.2.length
theorem abs_dist (x u : Rat) : (if x - u < 0 then 0 - (x - u) else x - u) = dist x u := by
  unfold dist
  by_cases h : x < u
  · rw [if_pos h, if_pos (by grind)]; grind
  · rw [if_neg h, if_neg (by grind)]
theorem tri_neg {q : Rat} : tri q 0 < 0 ↔ q < 0 := by
  unfold tri
  by_cases h : q < 0
  · rw [if_pos h]; exact ⟨fun _ => h, fun _ => by decide⟩
  · rw [if_neg h]
    constructor
    · intro h1; split at h1 <;> exact absurd h1 (by decide)
    · intro h1; exact absurd h1 h
instance bq_two : Bq 2 1 := ⟨by decide, by decide⟩
instance bq_three : Bq 3 1 := ⟨by decide, by decide⟩
instance bq_four : Bq 4 1 := ⟨by decide, by decide⟩
instance bq_seven : Bq 7 1 := ⟨by decide, by decide⟩
theorem rpOf_spec {n m : Int} {p q : Rat} (h1 : -9223372036854775808 ≤ n) (h2 : n ≤ 9223372036854775807) (h3 : -9223372036854775808 ≤ m) (h4 : m ≤ 9223372036854775807) (hp : (n : Rat) = p := by rfl) (hq : (m : Rat) = q := by rfl) : PSpec Tryz.prog G 23 [intS .i64 n, intS .i64 m] (aggS (canP p q)) := by
  refine fn_spec Tryz.func23 rfl rfl rfl ?_
  refine T_regionS ?_
  refine Run.alloc rfl rfl rfl rfl rfl fun b4 => ?_
  refine Run.nil ?_
  refine T_regionS ?_
  refine Run.one (ok_move rfl rfl) rfl rfl rfl ?_
  refine Run.one (ok_call rfl rfl (rqOf_spec h1 h2 hp)) rfl rfl rfl ?_
  refine Run.one (ok_move rfl rfl) rfl rfl rfl ?_
  refine Run.one (ok_call rfl rfl (rqOf_spec h3 h4 hq)) rfl rfl rfl ?_
  refine Run.one (ok_build rfl rfl rfl) rfl rfl rfl ?_
  refine Run.store 0 rfl rfl rfl rfl rfl rfl rfl rfl rfl ?_
  refine Run.nil ?_
  refine T_ret ?_
  exact ⟨_, [], .one (.agg 0 inferInstance rfl rfl rfl rfl), List.nil_sublist _, rfl, rfl⟩
theorem rpAdd_spec {b1 c1 : Bool} {l1 d1 m1 e1 : List Nat} {x1 y1 : Rat} {k1 j1 : Nat} [hx1 : IsQ b1 l1 d1 x1 k1] [hy1 : IsQ c1 m1 e1 y1 j1] {b2 c2 : Bool} {l2 d2 m2 e2 : List Nat} {x2 y2 : Rat} {k2 j2 : Nat} [hx2 : IsQ b2 l2 d2 x2 k2] [hy2 : IsQ c2 m2 e2 y2 j2] (hs : 64 * (k1 + j1 + k2 + j2) + 23000 ≤ 65536 := by decide) : PSpec Tryz.prog G 9 [aggS [boolS b1, natS l1, natS d1, boolS c1, natS m1, natS e1], aggS [boolS b2, natS l2, natS d2, boolS c2, natS m2, natS e2]] (aggS (canP (x1 + x2) (y1 + y2))) := by
  refine fn_spec Tryz.func9 rfl rfl rfl ?_
  refine T_regionS ?_
  refine Run.one (ok_box rfl rfl) rfl rfl rfl ?_
  refine Run.one (ok_box rfl rfl) rfl rfl rfl ?_
  refine Run.alloc rfl rfl rfl rfl rfl fun b4 => ?_
  refine Run.nil ?_
  refine T_drawS 13 (by kernel_rfl) ?_
  refine Run.one (ok_fieldAddr rfl rfl rfl) rfl rfl rfl ?_
  refine Run.one (ok_load_agg rfl rfl rfl rfl) rfl rfl rfl ?_
  refine Run.one (ok_fieldAddr rfl rfl rfl) rfl rfl rfl ?_
  refine Run.one (ok_load_agg rfl rfl rfl rfl) rfl rfl rfl ?_
  refine Run.one (ok_buildSlice rfl rfl (by decide) rfl (by simp) rfl rfl) rfl rfl rfl ?_
  refine Run.one (ok_call rfl rfl (rqadd2_spec (by omega))) rfl rfl rfl ?_
  refine Run.one (ok_fieldAddr rfl rfl rfl) rfl rfl rfl ?_
  refine Run.one (ok_load_agg rfl rfl rfl rfl) rfl rfl rfl ?_
  refine Run.one (ok_fieldAddr rfl rfl rfl) rfl rfl rfl ?_
  refine Run.one (ok_load_agg rfl rfl rfl rfl) rfl rfl rfl ?_
  refine Run.one (ok_buildSlice rfl rfl (by decide) rfl (by simp) rfl rfl) rfl rfl rfl ?_
  refine Run.one (ok_call rfl rfl (rqadd2_spec (by omega))) rfl rfl rfl ?_
  refine Run.one (ok_build rfl rfl rfl) rfl rfl rfl ?_
  refine Run.nil ?_
  refine Run.store 0 rfl rfl rfl rfl rfl rfl rfl rfl rfl ?_
  refine Run.nil ?_
  refine T_ret ?_
  exact ⟨_, [], .one (.agg 0 inferInstance rfl rfl rfl rfl), List.nil_sublist _, rfl, rfl⟩
theorem rpSub_spec {b1 c1 : Bool} {l1 d1 m1 e1 : List Nat} {x1 y1 : Rat} {k1 j1 : Nat} [hx1 : IsQ b1 l1 d1 x1 k1] [hy1 : IsQ c1 m1 e1 y1 j1] {b2 c2 : Bool} {l2 d2 m2 e2 : List Nat} {x2 y2 : Rat} {k2 j2 : Nat} [hx2 : IsQ b2 l2 d2 x2 k2] [hy2 : IsQ c2 m2 e2 y2 j2] (hs : 64 * (k1 + j1 + k2 + j2) + 23000 ≤ 65536 := by decide) : PSpec Tryz.prog G 29 [aggS [boolS b1, natS l1, natS d1, boolS c1, natS m1, natS e1], aggS [boolS b2, natS l2, natS d2, boolS c2, natS m2, natS e2]] (aggS (canP (x1 - x2) (y1 - y2))) := by
  refine fn_spec Tryz.func29 rfl rfl rfl ?_
  refine T_regionS ?_
  refine Run.one (ok_box rfl rfl) rfl rfl rfl ?_
  refine Run.one (ok_box rfl rfl) rfl rfl rfl ?_
  refine Run.alloc rfl rfl rfl rfl rfl fun b4 => ?_
  refine Run.nil ?_
  refine T_drawS 11 (by kernel_rfl) ?_
  refine Run.one (ok_fieldAddr rfl rfl rfl) rfl rfl rfl ?_
  refine Run.one (ok_load_agg rfl rfl rfl rfl) rfl rfl rfl ?_
  refine Run.one (ok_fieldAddr rfl rfl rfl) rfl rfl rfl ?_
  refine Run.one (ok_load_agg rfl rfl rfl rfl) rfl rfl rfl ?_
  refine Run.one (ok_call rfl rfl (rqsub_spec (by omega))) rfl rfl rfl ?_
  refine Run.one (ok_fieldAddr rfl rfl rfl) rfl rfl rfl ?_
  refine Run.one (ok_load_agg rfl rfl rfl rfl) rfl rfl rfl ?_
  refine Run.one (ok_fieldAddr rfl rfl rfl) rfl rfl rfl ?_
  refine Run.one (ok_load_agg rfl rfl rfl rfl) rfl rfl rfl ?_
  refine Run.one (ok_call rfl rfl (rqsub_spec (by omega))) rfl rfl rfl ?_
  refine Run.one (ok_build rfl rfl rfl) rfl rfl rfl ?_
  refine Run.nil ?_
  refine Run.store 0 rfl rfl rfl rfl rfl rfl rfl rfl rfl ?_
  refine Run.nil ?_
  refine T_ret ?_
  exact ⟨_, [], .one (.agg 0 inferInstance rfl rfl rfl rfl), List.nil_sublist _, rfl, rfl⟩
theorem rpScale_spec {b1 c1 : Bool} {l1 d1 m1 e1 : List Nat} {x1 y1 : Rat} {k1 j1 : Nat} [hx1 : IsQ b1 l1 d1 x1 k1] [hy1 : IsQ c1 m1 e1 y1 j1] {bt : Bool} {lt dt : List Nat} {t : Rat} {kt : Nat} [ht : IsQ bt lt dt t kt] (hs : 64 * (k1 + j1 + 2 * kt) + 23000 ≤ 65536 := by decide) : PSpec Tryz.prog G 31 [aggS [boolS b1, natS l1, natS d1, boolS c1, natS m1, natS e1], aggS [boolS bt, natS lt, natS dt]] (aggS (canP (x1 * t) (y1 * t))) := by
  refine fn_spec Tryz.func31 rfl rfl rfl ?_
  refine T_regionS ?_
  refine Run.one (ok_box rfl rfl) rfl rfl rfl ?_
  refine Run.one (ok_box rfl rfl) rfl rfl rfl ?_
  refine Run.alloc rfl rfl rfl rfl rfl fun b4 => ?_
  refine Run.nil ?_
  refine T_drawS 11 (by kernel_rfl) ?_
  refine Run.one (ok_fieldAddr rfl rfl rfl) rfl rfl rfl ?_
  refine Run.one (ok_load_agg rfl rfl rfl rfl) rfl rfl rfl ?_
  refine Run.one (ok_load_agg rfl rfl rfl rfl) rfl rfl rfl ?_
  refine Run.one (ok_buildSlice rfl rfl (by decide) rfl (by simp) rfl rfl) rfl rfl rfl ?_
  refine Run.one (ok_call rfl rfl (rqmul2_spec (by omega))) rfl rfl rfl ?_
  refine Run.one (ok_fieldAddr rfl rfl rfl) rfl rfl rfl ?_
  refine Run.one (ok_load_agg rfl rfl rfl rfl) rfl rfl rfl ?_
  refine Run.one (ok_load_agg rfl rfl rfl rfl) rfl rfl rfl ?_
  refine Run.one (ok_buildSlice rfl rfl (by decide) rfl (by simp) rfl rfl) rfl rfl rfl ?_
  refine Run.one (ok_call rfl rfl (rqmul2_spec (by omega))) rfl rfl rfl ?_
  refine Run.one (ok_build rfl rfl rfl) rfl rfl rfl ?_
  refine Run.nil ?_
  refine Run.store 0 rfl rfl rfl rfl rfl rfl rfl rfl rfl ?_
  refine Run.nil ?_
  refine T_ret ?_
  exact ⟨_, [], .one (.agg 0 inferInstance rfl rfl rfl rfl), List.nil_sublist _, rfl, rfl⟩
theorem rpAt_spec {b1 c1 : Bool} {l1 d1 m1 e1 : List Nat} {x1 y1 : Rat} {k1 j1 : Nat} [hx1 : IsQ b1 l1 d1 x1 k1] [hy1 : IsQ c1 m1 e1 y1 j1] {b2 c2 : Bool} {l2 d2 m2 e2 : List Nat} {x2 y2 : Rat} {k2 j2 : Nat} [hx2 : IsQ b2 l2 d2 x2 k2] [hy2 : IsQ c2 m2 e2 y2 j2] {bt : Bool} {lt dt : List Nat} {t : Rat} {kt : Nat} [ht : IsQ bt lt dt t kt] (hs : 128 * (k1 + j1 + k2 + j2 + 2 * kt) + 24000 ≤ 65536 := by decide) : PSpec Tryz.prog G 15 [aggS [boolS b1, natS l1, natS d1, boolS c1, natS m1, natS e1], aggS [boolS b2, natS l2, natS d2, boolS c2, natS m2, natS e2], aggS [boolS bt, natS lt, natS dt]] (aggS (canP (x1 + (x2 - x1) * t) (y1 + (y2 - y1) * t))) := by
  have hxb1 := hx1.bq
  have hyb1 := hy1.bq
  have hxb2 := hx2.bq
  have hyb2 := hy2.bq
  have htb := ht.bq
  refine fn_spec Tryz.func15 rfl rfl rfl ?_
  refine T_regionS ?_
  refine Run.one (ok_box rfl rfl) rfl rfl rfl ?_
  refine Run.one (ok_box rfl rfl) rfl rfl rfl ?_
  refine Run.one (ok_box rfl rfl) rfl rfl rfl ?_
  refine Run.alloc rfl rfl rfl rfl rfl fun b6 => ?_
  refine Run.nil ?_
  refine T_drawS 7 (by kernel_rfl) ?_
  refine Run.one (ok_load_agg rfl rfl rfl rfl) rfl rfl rfl ?_
  refine Run.one (ok_load_agg rfl rfl rfl rfl) rfl rfl rfl ?_
  refine Run.one (ok_load_agg rfl rfl rfl rfl) rfl rfl rfl ?_
  refine Run.one (ok_call rfl rfl (rpSub_spec (by omega))) rfl rfl rfl ?_
  refine Run.one (ok_load_agg rfl rfl rfl rfl) rfl rfl rfl ?_
  refine Run.one (ok_call rfl rfl (rpScale_spec (by omega))) rfl rfl rfl ?_
  refine Run.one (ok_call rfl rfl (rpAdd_spec (by omega))) rfl rfl rfl ?_
  refine Run.nil ?_
  refine Run.store 0 rfl rfl rfl rfl rfl rfl rfl rfl rfl ?_
  refine Run.nil ?_
  refine T_ret ?_
  exact ⟨_, [], .one (.agg 0 inferInstance rfl rfl rfl rfl), List.nil_sublist _, rfl, rfl⟩
theorem rabs_spec {b : Bool} {l d : List Nat} {q : Rat} {k : Nat} [h : IsQ b l d q k] (hs : 64 * k + 22100 ≤ 65536 := by decide) : PSpec Tryz.prog G 30 [aggS [boolS b, natS l, natS d]] (aggS (canQ (if q < 0 then 0 - q else q))) := by
  refine fn_spec Tryz.func30 rfl rfl rfl ?_
  refine T_regionS ?_
  refine Run.one (ok_box rfl rfl) rfl rfl rfl ?_
  refine Run.alloc rfl rfl rfl rfl rfl fun b2 => ?_
  refine Run.nil ?_
  refine T_seq ?_
  refine T_regionS ?_
  refine Run.one (ok_load_agg rfl rfl rfl rfl) rfl rfl rfl ?_
  refine Run.one (ok_call rfl rfl (rqSign_spec (by omega))) rfl rfl rfl ?_
  refine Run.one (ok_cmp rfl rfl rfl rfl) rfl rfl rfl ?_
  refine Run.nil ?_
  refine T_cond rfl rfl (fun h5 => ?_) (fun h5 => ?_)
  · have k5 := of_decide_eq_true h5
    have hlt : q < 0 := tri_neg.1 k5
    refine T_drawS 3 (by kernel_rfl) ?_
    refine Run.one (ok_call rfl rfl (rqOf_spec (n := 0) (q := 0) (by decide) (by decide))) rfl rfl rfl ?_
    refine Run.one (ok_load_agg rfl rfl rfl rfl) rfl rfl rfl ?_
    refine Run.one (ok_call rfl rfl (rqsub_spec (by omega))) rfl rfl rfl ?_
    refine Run.nil ?_
    refine Run.store 0 rfl rfl rfl rfl rfl rfl rfl rfl rfl ?_
    refine Run.nil ?_
    refine T_ret ?_
    exact ⟨_, [], .one (.agg 0 inferInstance rfl rfl rfl rfl), List.nil_sublist _, by rw [if_pos hlt]; rfl, rfl⟩
  · have k5 := of_decide_eq_false h5
    have hlt : ¬ q < 0 := fun h => k5 (tri_neg.2 h)
    refine T_skip ?_
    refine T_regionS ?_
    refine Run.one (ok_load_agg rfl rfl rfl rfl) rfl rfl rfl ?_
    refine Run.one (ok_call rfl rfl (rqNorm_spec (by omega))) rfl rfl rfl ?_
    refine Run.store 0 rfl rfl rfl rfl rfl rfl rfl rfl rfl ?_
    refine Run.nil ?_
    refine T_ret ?_
    exact ⟨_, [], .one (.agg 0 inferInstance rfl rfl rfl rfl), List.nil_sublist _, by rw [if_neg hlt]; rfl, rfl⟩
theorem rpFar_spec {b1 c1 : Bool} {l1 d1 m1 e1 : List Nat} {x1 y1 : Rat} {k1 j1 : Nat} [hx1 : IsQ b1 l1 d1 x1 k1] [hy1 : IsQ c1 m1 e1 y1 j1] {b2 c2 : Bool} {l2 d2 m2 e2 : List Nat} {x2 y2 : Rat} {k2 j2 : Nat} [hx2 : IsQ b2 l2 d2 x2 k2] [hy2 : IsQ c2 m2 e2 y2 j2] (hs : 64 * (k1 + j1 + k2 + j2) + 23500 ≤ 65536 := by decide) : PSpec Tryz.prog G 14 [aggS [boolS b1, natS l1, natS d1, boolS c1, natS m1, natS e1], aggS [boolS b2, natS l2, natS d2, boolS c2, natS m2, natS e2]] (aggS (canQ (dist x1 x2 + dist y1 y2))) := by
  have hxb1 := hx1.bq
  have hyb1 := hy1.bq
  have hxb2 := hx2.bq
  have hyb2 := hy2.bq
  refine fn_spec Tryz.func14 rfl rfl rfl ?_
  refine T_regionS ?_
  refine Run.one (ok_box rfl rfl) rfl rfl rfl ?_
  refine Run.one (ok_box rfl rfl) rfl rfl rfl ?_
  refine Run.alloc rfl rfl rfl rfl rfl fun b4 => ?_
  refine Run.nil ?_
  refine T_regionS ?_
  refine Run.one (ok_load_agg rfl rfl rfl rfl) rfl rfl rfl ?_
  refine Run.one (ok_load_agg rfl rfl rfl rfl) rfl rfl rfl ?_
  refine Run.one (ok_call rfl rfl (rpSub_spec (by omega))) rfl rfl rfl ?_
  refine Run.alloc rfl rfl rfl rfl rfl fun b5 => ?_
  refine Run.store 0 rfl rfl rfl rfl rfl rfl rfl rfl rfl ?_
  refine Run.nil ?_
  refine T_drawS 8 (by kernel_rfl) ?_
  refine Run.one (ok_fieldAddr_eq rfl rfl rfl) rfl rfl rfl ?_
  refine Run.one (ok_load_own_agg 0 rfl rfl rfl rfl rfl) rfl rfl rfl ?_
  refine Run.one ((ok_call rfl rfl (rabs_spec (by omega))).sub (show ∀ I v, (aggS (canQ (if x1 - x2 < 0 then 0 - (x1 - x2) else x1 - x2))).den I v → (aggS (canQ (dist x1 x2))).den I v from fun I v h => by rw [abs_dist] at h; exact h)) rfl rfl rfl ?_
  refine Run.one (ok_fieldAddr_eq rfl rfl rfl) rfl rfl rfl ?_
  refine Run.one (ok_load_own_agg 0 rfl rfl rfl rfl rfl) rfl rfl rfl ?_
  refine Run.one ((ok_call rfl rfl (rabs_spec (by omega))).sub (show ∀ I v, (aggS (canQ (if y1 - y2 < 0 then 0 - (y1 - y2) else y1 - y2))).den I v → (aggS (canQ (dist y1 y2))).den I v from fun I v h => by rw [abs_dist] at h; exact h)) rfl rfl rfl ?_
  refine Run.one (ok_buildSlice rfl rfl (by decide) rfl (by simp) rfl rfl) rfl rfl rfl ?_
  refine Run.one (ok_call rfl rfl (rqadd2_spec (by omega))) rfl rfl rfl ?_
  refine Run.nil ?_
  refine Run.store 1 rfl rfl rfl rfl rfl rfl rfl rfl rfl ?_
  refine Run.nil ?_
  refine T_ret ?_
  exact ⟨_, [], .one (.agg 1 inferInstance rfl rfl rfl rfl), List.nil_sublist _, rfl, rfl⟩
theorem rpCmp_spec {b1 c1 : Bool} {l1 d1 m1 e1 : List Nat} {x1 y1 : Rat} {k1 j1 : Nat} [hx1 : IsQ b1 l1 d1 x1 k1] [hy1 : IsQ c1 m1 e1 y1 j1] {b2 c2 : Bool} {l2 d2 m2 e2 : List Nat} {x2 y2 : Rat} {k2 j2 : Nat} [hx2 : IsQ b2 l2 d2 x2 k2] [hy2 : IsQ c2 m2 e2 y2 j2] (hs : 64 * (k1 + j1 + k2 + j2) + 23000 ≤ 65536 := by decide) : PSpec Tryz.prog G 38 [aggS [boolS b1, natS l1, natS d1, boolS c1, natS m1, natS e1], aggS [boolS b2, natS l2, natS d2, boolS c2, natS m2, natS e2]] (intS .i64 (triP x1 y1 x2 y2)) := by
  refine fn_spec Tryz.func38 rfl rfl rfl ?_
  refine T_regionS ?_
  refine Run.one (ok_box rfl rfl) rfl rfl rfl ?_
  refine Run.one (ok_box rfl rfl) rfl rfl rfl ?_
  refine Run.one (ok_assign rfl rfl) rfl rfl rfl ?_
  refine Run.nil ?_
  refine T_regionS ?_
  refine Run.one (ok_fieldAddr rfl rfl rfl) rfl rfl rfl ?_
  refine Run.one (ok_load_agg rfl rfl rfl rfl) rfl rfl rfl ?_
  refine Run.one (ok_fieldAddr rfl rfl rfl) rfl rfl rfl ?_
  refine Run.one (ok_load_agg rfl rfl rfl rfl) rfl rfl rfl ?_
  refine Run.one (ok_call rfl rfl (rqcmp_spec (by omega))) rfl rfl rfl ?_
  refine Run.one (ok_assign rfl rfl) rfl rfl rfl ?_
  refine Run.nil ?_
  refine T_seq ?_
  refine T_regionS ?_
  refine Run.one (ok_move rfl rfl) rfl rfl rfl ?_
  refine Run.one (ok_cmp rfl rfl rfl rfl) rfl rfl rfl ?_
  refine Run.nil ?_
  refine T_cond rfl rfl (fun h12 => ?_) (fun h12 => ?_)
  · have k12 := bne_iff_ne.1 h12
    refine T_regionS ?_
    refine Run.one (ok_move rfl rfl) rfl rfl rfl ?_
    refine Run.one (ok_assign rfl rfl) rfl rfl rfl ?_
    refine Run.nil ?_
    refine T_ret ?_
    exact ⟨_, [], .one (.tmp rfl), List.nil_sublist _, by unfold triP; rw [if_neg k12], rfl⟩
  · have k12 := bne_eq_false_iff_eq.1 h12
    refine T_skip ?_
    refine T_regionS ?_
    refine Run.one (ok_fieldAddr rfl rfl rfl) rfl rfl rfl ?_
    refine Run.one (ok_load_agg rfl rfl rfl rfl) rfl rfl rfl ?_
    refine Run.one (ok_fieldAddr rfl rfl rfl) rfl rfl rfl ?_
    refine Run.one (ok_load_agg rfl rfl rfl rfl) rfl rfl rfl ?_
    refine Run.one (ok_call rfl rfl (rqcmp_spec (by omega))) rfl rfl rfl ?_
    refine Run.one (ok_assign rfl rfl) rfl rfl rfl ?_
    refine Run.nil ?_
    refine T_ret ?_
    exact ⟨_, [], .one (.tmp rfl), List.nil_sublist _, by unfold triP; rw [if_pos k12], rfl⟩
theorem rpSame_spec {b1 c1 : Bool} {l1 d1 m1 e1 : List Nat} {x1 y1 : Rat} {k1 j1 : Nat} [hx1 : IsQ b1 l1 d1 x1 k1] [hy1 : IsQ c1 m1 e1 y1 j1] {b2 c2 : Bool} {l2 d2 m2 e2 : List Nat} {x2 y2 : Rat} {k2 j2 : Nat} [hx2 : IsQ b2 l2 d2 x2 k2] [hy2 : IsQ c2 m2 e2 y2 j2] (hs : 64 * (k1 + j1 + k2 + j2) + 23000 ≤ 65536 := by decide) : PSpec Tryz.prog G 19 [aggS [boolS b1, natS l1, natS d1, boolS c1, natS m1, natS e1], aggS [boolS b2, natS l2, natS d2, boolS c2, natS m2, natS e2]] (boolS (decide (x1 = x2 ∧ y1 = y2))) := by
  refine fn_spec Tryz.func19 rfl rfl rfl ?_
  refine T_regionS ?_
  refine Run.one (ok_box rfl rfl) rfl rfl rfl ?_
  refine Run.one (ok_box rfl rfl) rfl rfl rfl ?_
  refine Run.one (ok_assign rfl rfl) rfl rfl rfl ?_
  refine Run.nil ?_
  refine T_regionS ?_
  refine Run.one (ok_load_agg rfl rfl rfl rfl) rfl rfl rfl ?_
  refine Run.one (ok_load_agg rfl rfl rfl rfl) rfl rfl rfl ?_
  refine Run.one (ok_call rfl rfl (rpCmp_spec hs)) rfl rfl rfl ?_
  refine Run.one ((ok_cmp rfl rfl rfl rfl).sub (bool_eq triP_zero)) rfl rfl rfl ?_
  refine Run.one (ok_assign rfl rfl) rfl rfl rfl ?_
  refine Run.nil ?_
  refine T_ret ?_
  exact ⟨_, [], .one (.tmp rfl), List.nil_sublist _, rfl, rfl⟩
end Go.Proofs
