/- Points: straitref08; what the laws ask of sizes. -/
import Derived.Test.YtofplgefmjojjaaGreatDoorSnv
namespace Go.Proofs
open Go Go.Sv Num
variable {G : Imm}
instance bq_two : Bq 2 1 := ⟨by decide, by decide⟩
instance bq_three : Bq 3 1 := ⟨by decide, by decide⟩
instance bq_four : Bq 4 1 := ⟨by decide, by decide⟩
instance bq_seven : Bq 7 1 := ⟨by decide, by decide⟩
theorem rpOf_spec {n m : Int} {p q : Rat} (h1 : -9223372036854775808 ≤ n) (h2 : n ≤ 9223372036854775807) (h3 : -9223372036854775808 ≤ m) (h4 : m ≤ 9223372036854775807) (hp : (n : Rat) = p := by rfl) (hq : (m : Rat) = q := by rfl) : PSpec Tryz.prog G 71 [intS .i64 n, intS .i64 m] (aggS (canP p q)) := by
 refine fn_spec Tryz.func71 rfl rfl rfl ?_
 refine T_regionS ?_
 refine Run.alloc rfl rfl rfl rfl rfl fun b4 => ?_
 refine zx ?_
 refine zz ?_
 refine zf (rqOf_spec h1 h2 hp) ?_
 refine zz ?_
 refine zf (rqOf_spec h3 h4 hq) ?_
 refine zz ?_
 refine zw ?_
 refine Run.nil ?_
 refine T_ret ?_
 exact ⟨_, [], .one (.agg 0 inferInstance rfl rfl rfl rfl), List.nil_sublist _, rfl, rfl⟩
theorem rpSub_spec {b1 c1 : Bool} {l1 d1 m1 e1 : List Nat} {x1 y1 : Rat} {k1 j1 : Nat} [hx1 : IsQ b1 l1 d1 x1 k1] [hy1 : IsQ c1 m1 e1 y1 j1] {b2 c2 : Bool} {l2 d2 m2 e2 : List Nat} {x2 y2 : Rat} {k2 j2 : Nat} [hx2 : IsQ b2 l2 d2 x2 k2] [hy2 : IsQ c2 m2 e2 y2 j2] (hs : 64 * (k1 + j1 + k2 + j2) + 5000 ≤ 131072 := by decide) : PSpec Tryz.prog G 42 [aggS [boolS b1, natS l1, natS d1, boolS c1, natS m1, natS e1], aggS [boolS b2, natS l2, natS d2, boolS c2, natS m2, natS e2]] (aggS (canP (x1 - x2) (y1 - y2))) := by
 refine fn_spec Tryz.func42 rfl rfl rfl ?_
 refine T_regionS ?_
 iterate 2 refine zz ?_
 refine Run.alloc rfl rfl rfl rfl rfl fun b4 => ?_
 refine Run.nil ?_
 refine T_drawS 11 (by kernel_rfl) ?_
 iterate 4 refine zz ?_
 refine zo (ok_call rfl rfl (rqsub_spec (by omega))) ?_
 iterate 4 refine zz ?_
 refine zo (ok_call rfl rfl (rqsub_spec (by omega))) ?_
 refine zz ?_
 refine Run.nil ?_
 refine zw ?_
 refine Run.nil ?_
 refine T_ret ?_
 exact ⟨_, [], .one (.agg 0 inferInstance rfl rfl rfl rfl), List.nil_sublist _, rfl, rfl⟩
theorem rpCross_spec {b1 c1 : Bool} {l1 d1 m1 e1 : List Nat} {x1 y1 : Rat} {k1 j1 : Nat} [hx1 : IsQ b1 l1 d1 x1 k1] [hy1 : IsQ c1 m1 e1 y1 j1] {b2 c2 : Bool} {l2 d2 m2 e2 : List Nat} {x2 y2 : Rat} {k2 j2 : Nat} [hx2 : IsQ b2 l2 d2 x2 k2] [hy2 : IsQ c2 m2 e2 y2 j2] (hs : 64 * (k1 + j1 + k2 + j2) + 5000 ≤ 131072 := by decide) : PSpec Tryz.prog G 62 [aggS [boolS b1, natS l1, natS d1, boolS c1, natS m1, natS e1], aggS [boolS b2, natS l2, natS d2, boolS c2, natS m2, natS e2]] (aggS (canQ (x1 * y2 - y1 * x2))) := by
 have hxb1 := hx1.bq
 have hyb1 := hy1.bq
 have hxb2 := hx2.bq
 have hyb2 := hy2.bq
 refine fn_spec Tryz.func62 rfl rfl rfl ?_
 refine T_regionS ?_
 iterate 2 refine zz ?_
 refine Run.alloc rfl rfl rfl rfl rfl fun b4 => ?_
 refine Run.nil ?_
 refine T_drawS 13 (by kernel_rfl) ?_
 iterate 4 refine zz ?_
 refine zo (ok_buildSlice rfl rfl (by decide) rfl (by simp) rfl rfl) ?_
 refine zo (ok_call rfl rfl (rqmul2_spec (by omega))) ?_
 iterate 4 refine zz ?_
 refine zo (ok_buildSlice rfl rfl (by decide) rfl (by simp) rfl rfl) ?_
 refine zo (ok_call rfl rfl (rqmul2_spec (by omega))) ?_
 refine zo (ok_call rfl rfl (rqsub_spec (by omega))) ?_
 refine Run.nil ?_
 refine zw ?_
 refine Run.nil ?_
 refine T_ret ?_
 exact ⟨_, [], .one (.agg 0 inferInstance rfl rfl rfl rfl), List.nil_sublist _, rfl, rfl⟩
end Go.Proofs
