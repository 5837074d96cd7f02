/- Points: straitref08; what the laws ask of sizes. -/
import Derived.Test.YtofplgefmjojjaaGreatDoorSnv
namespace Go.Proofs
open Go Go.Sv Num
variable {G : Imm}
abbrev psz (p : (Bool × List Nat × List Nat) × (Bool × List Nat × List Nat)) : Nat := max (max (max p.1.2.1.length p.1.2.2.length) p.2.2.1.length) p.2.2.2.length
instance bq_two : Bq 2 1 := ⟨by decide, by decide⟩
instance bq_three : Bq 3 1 := ⟨by decide, by decide⟩
instance bq_four : Bq 4 1 := ⟨by decide, by decide⟩
instance bq_seven : Bq 7 1 := ⟨by decide, by decide⟩
theorem rpOf_spec {n m : Int} {p q : Rat} (h1 : -9223372036854775808 ≤ n) (h2 : n ≤ 9223372036854775807) (h3 : -9223372036854775808 ≤ m) (h4 : m ≤ 9223372036854775807) (hp : (n : Rat) = p := by rfl) (hq : (m : Rat) = q := by rfl) : PSpec Tryz.prog G 71 [intS .i64 n, intS .i64 m] (aggS (canP p q)) := by
 refine fn_spec Tryz.func71 rfl rfl rfl ?_
 refine T_regionS ?_
 refine Run.alloc rfl rfl rfl rfl rfl fun b4 => ?_
 refine Run.nil ?_
 refine T_regionS ?_
 refine Run.one (ok_move rfl rfl) rfl rfl rfl ?_
 refine Run.one (ok_call rfl rfl (rqOf_spec h1 h2 hp)) rfl rfl rfl ?_
 refine Run.one (ok_move rfl rfl) rfl rfl rfl ?_
 refine Run.one (ok_call rfl rfl (rqOf_spec h3 h4 hq)) rfl rfl rfl ?_
 refine Run.one (ok_build rfl rfl rfl) rfl rfl rfl ?_
 refine Run.store 0 rfl rfl rfl rfl rfl rfl rfl rfl rfl ?_
 refine Run.nil ?_
 refine T_ret ?_
 exact ⟨_, [], .one (.agg 0 inferInstance rfl rfl rfl rfl), List.nil_sublist _, rfl, rfl⟩
theorem rpAdd_spec {b1 c1 : Bool} {l1 d1 m1 e1 : List Nat} {x1 y1 : Rat} {k1 j1 : Nat} [hx1 : IsQ b1 l1 d1 x1 k1] [hy1 : IsQ c1 m1 e1 y1 j1] {b2 c2 : Bool} {l2 d2 m2 e2 : List Nat} {x2 y2 : Rat} {k2 j2 : Nat} [hx2 : IsQ b2 l2 d2 x2 k2] [hy2 : IsQ c2 m2 e2 y2 j2] (hs : 64 * (k1 + j1 + k2 + j2) + 23000 ≤ 65536 := by decide) : PSpec Tryz.prog G 15 [aggS [boolS b1, natS l1, natS d1, boolS c1, natS m1, natS e1], aggS [boolS b2, natS l2, natS d2, boolS c2, natS m2, natS e2]] (aggS (canP (x1 + x2) (y1 + y2))) := by
 refine fn_spec Tryz.func15 rfl rfl rfl ?_
 refine T_regionS ?_
 iterate 2 refine Run.one (ok_box rfl rfl) rfl rfl rfl ?_
 refine Run.alloc rfl rfl rfl rfl rfl fun b4 => ?_
 refine Run.nil ?_
 refine T_drawS 13 (by kernel_rfl) ?_
 refine Run.one (ok_fieldAddr rfl rfl rfl) rfl rfl rfl ?_
 refine Run.one (ok_load_agg rfl rfl rfl rfl) rfl rfl rfl ?_
 refine Run.one (ok_fieldAddr rfl rfl rfl) rfl rfl rfl ?_
 refine Run.one (ok_load_agg rfl rfl rfl rfl) rfl rfl rfl ?_
 refine Run.one (ok_buildSlice rfl rfl (by decide) rfl (by simp) rfl rfl) rfl rfl rfl ?_
 refine Run.one (ok_call rfl rfl (rqadd2_spec (by omega))) rfl rfl rfl ?_
 refine Run.one (ok_fieldAddr rfl rfl rfl) rfl rfl rfl ?_
 refine Run.one (ok_load_agg rfl rfl rfl rfl) rfl rfl rfl ?_
 refine Run.one (ok_fieldAddr rfl rfl rfl) rfl rfl rfl ?_
 refine Run.one (ok_load_agg rfl rfl rfl rfl) rfl rfl rfl ?_
 refine Run.one (ok_buildSlice rfl rfl (by decide) rfl (by simp) rfl rfl) rfl rfl rfl ?_
 refine Run.one (ok_call rfl rfl (rqadd2_spec (by omega))) rfl rfl rfl ?_
 refine Run.one (ok_build rfl rfl rfl) rfl rfl rfl ?_
 refine Run.nil ?_
 refine Run.store 0 rfl rfl rfl rfl rfl rfl rfl rfl rfl ?_
 refine Run.nil ?_
 refine T_ret ?_
 exact ⟨_, [], .one (.agg 0 inferInstance rfl rfl rfl rfl), List.nil_sublist _, rfl, rfl⟩
theorem rpSub_spec {b1 c1 : Bool} {l1 d1 m1 e1 : List Nat} {x1 y1 : Rat} {k1 j1 : Nat} [hx1 : IsQ b1 l1 d1 x1 k1] [hy1 : IsQ c1 m1 e1 y1 j1] {b2 c2 : Bool} {l2 d2 m2 e2 : List Nat} {x2 y2 : Rat} {k2 j2 : Nat} [hx2 : IsQ b2 l2 d2 x2 k2] [hy2 : IsQ c2 m2 e2 y2 j2] (hs : 64 * (k1 + j1 + k2 + j2) + 23000 ≤ 65536 := by decide) : PSpec Tryz.prog G 42 [aggS [boolS b1, natS l1, natS d1, boolS c1, natS m1, natS e1], aggS [boolS b2, natS l2, natS d2, boolS c2, natS m2, natS e2]] (aggS (canP (x1 - x2) (y1 - y2))) := by
 refine fn_spec Tryz.func42 rfl rfl rfl ?_
 refine T_regionS ?_
 iterate 2 refine Run.one (ok_box rfl rfl) rfl rfl rfl ?_
 refine Run.alloc rfl rfl rfl rfl rfl fun b4 => ?_
 refine Run.nil ?_
 refine T_drawS 11 (by kernel_rfl) ?_
 refine Run.one (ok_fieldAddr rfl rfl rfl) rfl rfl rfl ?_
 refine Run.one (ok_load_agg rfl rfl rfl rfl) rfl rfl rfl ?_
 refine Run.one (ok_fieldAddr rfl rfl rfl) rfl rfl rfl ?_
 refine Run.one (ok_load_agg rfl rfl rfl rfl) rfl rfl rfl ?_
 refine Run.one (ok_call rfl rfl (rqsub_spec (by omega))) rfl rfl rfl ?_
 refine Run.one (ok_fieldAddr rfl rfl rfl) rfl rfl rfl ?_
 refine Run.one (ok_load_agg rfl rfl rfl rfl) rfl rfl rfl ?_
 refine Run.one (ok_fieldAddr rfl rfl rfl) rfl rfl rfl ?_
 refine Run.one (ok_load_agg rfl rfl rfl rfl) rfl rfl rfl ?_
 refine Run.one (ok_call rfl rfl (rqsub_spec (by omega))) rfl rfl rfl ?_
 refine Run.one (ok_build rfl rfl rfl) rfl rfl rfl ?_
 refine Run.nil ?_
 refine Run.store 0 rfl rfl rfl rfl rfl rfl rfl rfl rfl ?_
 refine Run.nil ?_
 refine T_ret ?_
 exact ⟨_, [], .one (.agg 0 inferInstance rfl rfl rfl rfl), List.nil_sublist _, rfl, rfl⟩
theorem rpGreat_spec {xs : List ((Bool × List Nat × List Nat) × (Bool × List Nat × List Nat))} : PSpec Tryz.prog G 114 [slS 6 pc xs] (boolS (decide (60 < xs.length ∨ ∃ p ∈ xs, 6 < psz p))) := by
 refine fn_spec Tryz.func114 rfl rfl rfl ?_
 refine T_regionS ?_
 refine Run.one (ok_assign rfl rfl) rfl rfl rfl ?_
 refine Run.nil ?_
 refine T_seq ?_
 refine T_regionS ?_
 refine Run.one (ok_assign rfl rfl) rfl rfl rfl ?_
 refine Run.nil ?_
 refine T_block ?_
 refine T_len 0 rfl fun ha => ?_
 unfold big at ha
 refine T_loop (γ := Nat) (fun i => ⟨_, [(3, intS .i64 (i : Nat)), (0, slS 6 pc xs)], [], [], (0, false)⟩) (fun i => i ≤ xs.length ∧ i ≤ 61 ∧ ∀ j p, j < i → xs[j]? = some p → psz p ≤ 6) (fun i => xs.length - i) 0 ⟨Nat.zero_le _, by decide, fun j p h => by omega⟩ (ent_g (subG_cons rfl (subG_cons rfl (trivial)))) ?_
 rintro i ⟨hi, hi2, hz⟩
 refine T_seq ?_
 refine T_regionS ?_
 iterate 2 refine Run.one (ok_move rfl rfl) rfl rfl rfl ?_
 refine Run.one (ok_len rfl rfl) rfl rfl rfl ?_
 refine Run.oneB (ok_cmp rfl rfl rfl rfl) rfl rfl rfl (fun h2_3 => ?_) (fun h2_3 => ?_)
 ·have k2_3 := of_decide_eq_true h2_3
  refine Run.one (ok_move rfl rfl) rfl rfl rfl ?_
  refine Run.one (ok_move rfl rfl) (gB rfl rfl rfl rfl) rfl rfl ?_
  refine Run.one (ok_cmp rfl rfl rfl rfl) (gB rfl rfl rfl rfl) rfl rfl ?_
  refine Run.one (ok_pick rfl rfl rfl) rfl rfl rfl ?_
  refine Run.nil ?_
  refine T_cond rfl rfl (fun h11 => ?_) (fun h11 => ?_)
  ·have k11 := of_decide_eq_true h11
   refine T_skip ?_
   refine T_seq ?_
   refine T_block ?_
   refine T_drawS 32 (by kernel_rfl) ?_
   obtain ⟨⟨⟨b, l, d⟩, ⟨c, m, e⟩⟩, hp⟩ : ∃ p, xs[i]? = some p := ⟨_, List.getElem?_eq_getElem (by omega)⟩
   have hpm := List.mem_of_getElem? hp
   obtain ⟨sz, hsz⟩ : ∃ sz, sz = psz ((b, l, d), (c, m, e)) := ⟨_, rfl⟩
   have hsz2 : sz = max (max (max l.length d.length) m.length) e.length := hsz
   iterate 2 refine Run.one (ok_move rfl rfl) rfl rfl rfl ?_
   refine Run.one (ok_indexAddr rfl rfl rfl (by omega) (y := ((b, l, d), (c, m, e))) (hp)) rfl rfl rfl ?_
   iterate 3 refine Run.one (ok_fieldAddr rfl rfl rfl) rfl rfl rfl ?_
   refine Run.one (ok_load rfl rfl) rfl rfl rfl ?_
   refine Run.one (ok_len rfl rfl) rfl rfl rfl ?_
   iterate 2 refine Run.one (ok_move rfl rfl) rfl rfl rfl ?_
   refine Run.one (ok_indexAddr rfl rfl rfl (by omega) (y := ((b, l, d), (c, m, e))) (hp)) rfl rfl rfl ?_
   iterate 2 refine Run.one (ok_fieldAddr rfl rfl rfl) rfl rfl rfl ?_
   refine Run.one (ok_load rfl rfl) rfl rfl rfl ?_
   refine Run.one (ok_len rfl rfl) rfl rfl rfl ?_
   iterate 2 refine Run.one (ok_move rfl rfl) rfl rfl rfl ?_
   refine Run.one (ok_indexAddr rfl rfl rfl (by omega) (y := ((b, l, d), (c, m, e))) (hp)) rfl rfl rfl ?_
   iterate 3 refine Run.one (ok_fieldAddr rfl rfl rfl) rfl rfl rfl ?_
   refine Run.one (ok_load rfl rfl) rfl rfl rfl ?_
   refine Run.one (ok_len rfl rfl) rfl rfl rfl ?_
   iterate 2 refine Run.one (ok_move rfl rfl) rfl rfl rfl ?_
   refine Run.one (ok_indexAddr rfl rfl rfl (by omega) (y := ((b, l, d), (c, m, e))) (hp)) rfl rfl rfl ?_
   iterate 2 refine Run.one (ok_fieldAddr rfl rfl rfl) rfl rfl rfl ?_
   refine Run.one (ok_load rfl rfl) rfl rfl rfl ?_
   refine Run.one (ok_len rfl rfl) rfl rfl rfl ?_
   refine Run.one ((ok_max4 rfl rfl rfl rfl rfl).sub (int_eq (n := ((sz : Nat) : Int)) (by simp only [hsz2]; omega))) rfl rfl rfl ?_
   refine Run.one (ok_cmp rfl rfl rfl rfl) rfl rfl rfl ?_
   iterate 2 refine Run.nil ?_
   refine T_cond rfl rfl (fun h45 => ?_) (fun h45 => ?_)
   ·have k45 := of_decide_eq_true h45
    refine T_regionS ?_
    refine Run.one (ok_assign rfl rfl) rfl rfl rfl ?_
    refine Run.nil ?_
    refine T_ret ?_
    exact ⟨_, [], .one (.tmp rfl), List.nil_sublist _, congrArg boolS (decide_eq_true (.inr ⟨_, hpm, by rw [← hsz]; omega⟩)).symm, rfl⟩
   ·have k45 := of_decide_eq_false h45
    refine T_skip ?_
    refine T_region ?_
    refine Run.one (ok_move rfl rfl) rfl rfl rfl ?_
    refine Run.one (ok_ari (z := ((i + 1 : Nat) : Int)) rfl rfl rfl (congrArg some (by omega)) (wrap_i64 (by omega) (by omega))) rfl rfl rfl ?_
    refine Run.one (ok_assign rfl rfl) rfl rfl rfl ?_
    refine Run.nil ?_
    refine ⟨i + 1, ⟨by omega, ?_, fun j p hj hpj => ?_⟩, by omega, ent_g (subG_cons rfl (subG_cons rfl (trivial)))⟩
    ·omega
    rcases Nat.lt_or_ge j i with h | h
    ·exact hz j p h hpj
    ·rw [show j = i by omega, hp] at hpj; cases hpj; rw [← hsz]; omega
  ·have k11 := of_decide_eq_false h11
   refine T_exit ?_
   refine T_regionS ?_
   refine Run.one (ok_move rfl rfl) rfl rfl rfl ?_
   refine Run.one (ok_len rfl rfl) rfl rfl rfl ?_
   refine Run.one ((ok_cmp rfl rfl rfl rfl).sub (bool_eq (c := decide (60 < xs.length ∨ ∃ p ∈ xs, 6 < psz p)) (decide_eq_decide.2 ⟨fun h => .inl (by omega), fun h => by rcases h with h | h; omega; omega⟩))) rfl rfl rfl ?_
   refine Run.one (ok_assign rfl rfl) rfl rfl rfl ?_
   refine Run.nil ?_
   refine T_ret ?_
   exact ⟨_, [], .one (.tmp rfl), List.nil_sublist _, rfl, rfl⟩
 ·have k2_3 := of_decide_eq_false h2_3
  refine Run.one (ok_move rfl rfl) rfl rfl rfl ?_
  iterate 2 refine Run.no (gB rfl rfl rfl rfl) rfl rfl ?_
  refine Run.one (ok_pick rfl rfl rfl) rfl rfl rfl ?_
  refine Run.nil ?_
  refine T_condF rfl rfl ?_
  refine T_exit ?_
  refine T_regionS ?_
  refine Run.one (ok_move rfl rfl) rfl rfl rfl ?_
  refine Run.one (ok_len rfl rfl) rfl rfl rfl ?_
  refine Run.one ((ok_cmp rfl rfl rfl rfl).sub (bool_eq (c := decide (60 < xs.length ∨ ∃ p ∈ xs, 6 < psz p)) (decide_eq_decide.2 ⟨fun h => .inl (by omega), fun h => by rcases h with h | ⟨p, hp, h⟩; omega; obtain ⟨j, hj⟩ := List.getElem?_of_mem hp; have := hz j p (by have := lt_of_get hj; omega) hj; omega⟩))) rfl rfl rfl ?_
  refine Run.one (ok_assign rfl rfl) rfl rfl rfl ?_
  refine Run.nil ?_
  refine T_ret ?_
  exact ⟨_, [], .one (.tmp rfl), List.nil_sublist _, rfl, rfl⟩
end Go.Proofs
