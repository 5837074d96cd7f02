/- Points: straitref08; what the laws ask of sizes. -/
import Derived.Test.YtofplgefmjojjaaGreatDoorSnv
namespace Go.Proofs
open Go Go.Sv Num
variable {G : Imm}
abbrev psz (p : (Bool × List Nat × List Nat) × (Bool × List Nat × List Nat)) : Nat := max (max (max p.1.2.1.length p.1.2.2.length) p.2.2.1.length) p.2.2.2.length
instance bq_two : Bq 2 1 := ⟨by decide, by decide⟩
instance bq_three : Bq 3 1 := ⟨by decide, by decide⟩
instance bq_four : Bq 4 1 := ⟨by decide, by decide⟩
instance bq_seven : Bq 7 1 := ⟨by decide, by decide⟩
theorem rpOf_spec {n m : Int} {p q : Rat} (h1 : -9223372036854775808 ≤ n) (h2 : n ≤ 9223372036854775807) (h3 : -9223372036854775808 ≤ m) (h4 : m ≤ 9223372036854775807) (hp : (n : Rat) = p := by rfl) (hq : (m : Rat) = q := by rfl) : PSpec Tryz.prog G 71 [intS .i64 n, intS .i64 m] (aggS (canP p q)) := by
  refine fn_spec Tryz.func71 rfl rfl rfl ?_
  refine T_regionS ?_
  refine Run.alloc rfl rfl rfl rfl rfl fun b4 => ?_
  refine Run.nil ?_
  refine T_regionS ?_
  refine Run.one (ok_move rfl rfl) rfl rfl rfl ?_
  refine Run.one (ok_call rfl rfl (rqOf_spec h1 h2 hp)) rfl rfl rfl ?_
  refine Run.one (ok_move rfl rfl) rfl rfl rfl ?_
  refine Run.one (ok_call rfl rfl (rqOf_spec h3 h4 hq)) rfl rfl rfl ?_
  refine Run.one (ok_build rfl rfl rfl) rfl rfl rfl ?_
  refine Run.store 0 rfl rfl rfl rfl rfl rfl rfl rfl rfl ?_
  refine Run.nil ?_
  refine T_ret ?_
  exact ⟨_, [], .one (.agg 0 inferInstance rfl rfl rfl rfl), List.nil_sublist _, rfl, rfl⟩
end Go.Proofs
