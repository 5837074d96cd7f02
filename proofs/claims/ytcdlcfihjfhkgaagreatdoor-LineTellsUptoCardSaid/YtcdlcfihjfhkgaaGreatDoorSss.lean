/- The law LineTells, on the facts. -/
import Derived.Test.YtcdlcfihjfhkgaaGreatDoorSsr
namespace Num
open Go Go.Lib
theorem num3_zero {s : List UInt8} (h : (num3 s).2.2 ≠ 0) : (num3 s).1 = 0 := by
  revert h
  unfold num3 numF
  simp only
  split
  · exact fun _ => rfl
  · split
    · exact fun h => absurd rfl h
    · split
      · exact fun _ => rfl
      · split
        · exact fun _ => rfl
        · exact fun h => absurd rfl h
end Num
namespace Go.Proofs
open Go Go.Sv Num
variable {G : Imm}
theorem num3_bq (s : List UInt8) : Bq (num3 s).1 7 := by
  by_cases h : (num3 s).2.2 = 0
  · obtain ⟨q2, k2, hn⟩ : ∃ q2 k2, num3 s = (q2, k2, 0) := ⟨_, _, Prod.ext rfl (Prod.ext rfl h)⟩
    obtain ⟨_, _, _, h1, h2⟩ := num3_ok hn
    rw [hn]; exact ⟨h1, h2⟩
  · rw [num3_zero h]; exact ⟨by decide, by decide⟩
theorem lineTells_spec [Tab G] [Tab10 G] [MaxLen G] {s : List UInt8} {b : Bool} {l d : List Nat} {ws : List (List UInt8)} (hl : Lim l ∧ Lim d) (hj : ws.length ≤ 100 → (Lib.join ws [32]).length ≤ 140737488355328) : PSpec Tryz.prog G 3 [strS s, aggS [boolS b, natS l, natS d], slS 1 tC ws] (boolS true) := by
  refine fn_spec Tryz.func3 rfl rfl rfl ?_
  refine T_regionS ?_
  refine Run.one (ok_box rfl rfl) rfl rfl rfl ?_
  refine Run.one (ok_assign rfl rfl) rfl rfl rfl ?_
  refine Run.nil ?_
  refine T_seq ?_
  refine T_regionS ?_
  refine Run.one (ok_move rfl rfl) rfl rfl rfl ?_
  refine Run.one (ok_len_str rfl rfl) rfl rfl rfl ?_
  refine Run.oneB (ok_cmp rfl rfl rfl rfl) rfl rfl rfl (fun h1_2 => ?_) (fun h1_2 => ?_)
  · have k1_2 := of_decide_eq_true h1_2
    refine Run.one (ok_move rfl rfl) rfl rfl rfl ?_
    refine Run.no (gB rfl rfl rfl rfl) rfl rfl ?_
    refine Run.no (gB rfl rfl rfl rfl) rfl rfl ?_
    refine Run.no (gB rfl rfl rfl rfl) rfl rfl ?_
    refine Run.one (ok_pick rfl rfl rfl) rfl rfl rfl ?_
    refine Run.one (ok_move rfl rfl) rfl rfl rfl ?_
    refine Run.no (gB rfl rfl rfl rfl) rfl rfl ?_
    refine Run.no (gB rfl rfl rfl rfl) rfl rfl ?_
    refine Run.no (gB rfl rfl rfl rfl) rfl rfl ?_
    refine Run.one (ok_pick rfl rfl rfl) rfl rfl rfl ?_
    refine Run.nil ?_
    refine T_condT rfl rfl ?_
    refine T_regionS ?_
    refine Run.one (ok_call rfl rfl wakes11_spec) rfl rfl rfl ?_
    refine Run.one (ok_assign rfl rfl) rfl rfl rfl ?_
    refine Run.nil ?_
    refine T_ret ?_
    exact ⟨_, [], .one (.tmp rfl), List.nil_sublist _, rfl, rfl⟩
  · have k1_2 := of_decide_eq_false h1_2
    refine Run.one (ok_move rfl rfl) rfl rfl rfl ?_
    refine Run.one (ok_load_agg rfl rfl rfl rfl) (gB rfl rfl rfl rfl) rfl rfl ?_
    refine Run.one (ok_buildSlice rfl rfl (by decide) rfl (by simp) rfl rfl) (gB rfl rfl rfl rfl) rfl rfl ?_
    refine Run.one (ok_call rfl rfl ((rqGreat_spec (xs := [(b, l, d)])).args ⟨fun I v h => sl_map (f := qc) (l := [(b, l, d)]) h, trivial⟩)) (gB rfl rfl rfl rfl) rfl rfl ?_
    refine Run.oneB (ok_pick rfl rfl rfl) rfl rfl rfl (fun h1_7 => ?_) (fun h1_7 => ?_)
    · refine Run.one (ok_move rfl rfl) rfl rfl rfl ?_
      refine Run.no (gB rfl rfl rfl rfl) rfl rfl ?_
      refine Run.no (gB rfl rfl rfl rfl) rfl rfl ?_
      refine Run.no (gB rfl rfl rfl rfl) rfl rfl ?_
      refine Run.one (ok_pick rfl rfl rfl) rfl rfl rfl ?_
      refine Run.nil ?_
      refine T_condT rfl rfl ?_
      refine T_regionS ?_
      refine Run.one (ok_call rfl rfl wakes11_spec) rfl rfl rfl ?_
      refine Run.one (ok_assign rfl rfl) rfl rfl rfl ?_
      refine Run.nil ?_
      refine T_ret ?_
      exact ⟨_, [], .one (.tmp rfl), List.nil_sublist _, rfl, rfl⟩
    · refine Run.one (ok_move rfl rfl) rfl rfl rfl ?_
      refine Run.one (ok_move rfl rfl) (gB rfl rfl rfl rfl) rfl rfl ?_
      refine Run.one (ok_len rfl rfl) (gB rfl rfl rfl rfl) rfl rfl ?_
      refine Run.one (ok_cmp rfl rfl rfl rfl) (gB rfl rfl rfl rfl) rfl rfl ?_
      refine Run.one (ok_pick rfl rfl rfl) rfl rfl rfl ?_
      refine Run.nil ?_
      refine T_cond rfl rfl (fun h31 => ?_) (fun h31 => ?_)
      · have k31 := of_decide_eq_true h31
        refine T_regionS ?_
        refine Run.one (ok_call rfl rfl wakes11_spec) rfl rfl rfl ?_
        refine Run.one (ok_assign rfl rfl) rfl rfl rfl ?_
        refine Run.nil ?_
        refine T_ret ?_
        exact ⟨_, [], .one (.tmp rfl), List.nil_sublist _, rfl, rfl⟩
      · have k31 := of_decide_eq_false h31
        have hg : ¬ (60 < [(b, l, d)].length ∨ 40 < gs qtz [(b, l, d)] [(b, l, d)].length) := of_decide_eq_false h1_7
        simp [gs, qtz] at hg
        have iq : IsQ b l d (qv (b, l, d)) 41 := isQ_lim ⟨hl.1, hl.2, by omega, by omega⟩ (by decide)
        obtain ⟨q, hq⟩ : ∃ q, q = qv (b, l, d) := ⟨_, rfl⟩
        rw [← hq] at iq
        have ibq : Bq q 41 := iq.bq
        have hj := hj (by omega)
        have ibn := num3_bq s
        refine T_skip ?_
        refine T_regionS ?_
        refine Run.one (ok_move rfl rfl) rfl rfl rfl ?_
        refine Run.one (ok_call rfl rfl (lines_spec (by omega))) rfl rfl rfl ?_
        refine Run.one (ok_move rfl rfl) rfl rfl rfl ?_
        refine Run.one (ok_extract rfl rfl rfl) rfl rfl rfl ?_
        refine Run.one (ok_extract rfl rfl rfl) rfl rfl rfl ?_
        refine Run.one (ok_assign rfl rfl) rfl rfl rfl ?_
        refine Run.one (ok_assign rfl rfl) rfl rfl rfl ?_
        refine Run.nil ?_
        refine T_regionS ?_
        refine Run.one (ok_move rfl rfl) rfl rfl rfl ?_
        refine Run.one (ok_call rfl rfl (rlines_spec (by omega))) rfl rfl rfl ?_
        refine Run.one (ok_move rfl rfl) rfl rfl rfl ?_
        refine Run.one (ok_extract rfl rfl rfl) rfl rfl rfl ?_
        refine Run.one (ok_extract rfl rfl rfl) rfl rfl rfl ?_
        refine Run.one (ok_assign rfl rfl) rfl rfl rfl ?_
        refine Run.one (ok_assign rfl rfl) rfl rfl rfl ?_
        refine Run.nil ?_
        refine T_regionS ?_
        refine Run.one (ok_move rfl rfl) rfl rfl rfl ?_
        refine Run.one (ok_call rfl rfl (words_spec (by omega))) rfl rfl rfl ?_
        refine Run.one (ok_move rfl rfl) rfl rfl rfl ?_
        refine Run.one (ok_extract rfl rfl rfl) rfl rfl rfl ?_
        refine Run.one (ok_extract rfl rfl rfl) rfl rfl rfl ?_
        refine Run.one (ok_assign rfl rfl) rfl rfl rfl ?_
        refine Run.one (ok_assign rfl rfl) rfl rfl rfl ?_
        refine Run.nil ?_
        refine T_regionS ?_
        refine Run.one (ok_move rfl rfl) rfl rfl rfl ?_
        refine Run.one (ok_call rfl rfl (rwords_spec (by omega))) rfl rfl rfl ?_
        refine Run.one (ok_move rfl rfl) rfl rfl rfl ?_
        refine Run.one (ok_extract rfl rfl rfl) rfl rfl rfl ?_
        refine Run.one (ok_extract rfl rfl rfl) rfl rfl rfl ?_
        refine Run.one (ok_assign rfl rfl) rfl rfl rfl ?_
        refine Run.one (ok_assign rfl rfl) rfl rfl rfl ?_
        refine Run.nil ?_
        refine T_seq ?_
        refine T_regionS ?_
        refine Run.one (ok_move rfl rfl) rfl rfl rfl ?_
        refine Run.one (ok_move rfl rfl) rfl rfl rfl ?_
        refine Run.one ((ok_call rfl rfl rsame11_spec).sub (bool_eq (c := true) (by simp))) rfl rfl rfl ?_
        refine Run.one (ok_not rfl rfl) rfl rfl rfl ?_
        refine Run.one (ok_move rfl rfl) rfl rfl rfl ?_
        refine Run.one (ok_move rfl rfl) (gB rfl rfl rfl rfl) rfl rfl ?_
        refine Run.one (ok_move rfl rfl) (gB rfl rfl rfl rfl) rfl rfl ?_
        refine Run.one ((ok_cmp rfl rfl rfl rfl).sub (bool_eq (c := false) (by simp))) (gB rfl rfl rfl rfl) rfl rfl ?_
        refine Run.one (ok_pick rfl rfl rfl) rfl rfl rfl ?_
        refine Run.one (ok_move rfl rfl) rfl rfl rfl ?_
        refine Run.one (ok_move rfl rfl) (gB rfl rfl rfl rfl) rfl rfl ?_
        refine Run.one (ok_move rfl rfl) (gB rfl rfl rfl rfl) rfl rfl ?_
        refine Run.one ((ok_call rfl rfl rsame11_spec).sub (bool_eq (c := true) (by simp))) (gB rfl rfl rfl rfl) rfl rfl ?_
        refine Run.one (ok_not rfl rfl) (gB rfl rfl rfl rfl) rfl rfl ?_
        refine Run.one (ok_pick rfl rfl rfl) rfl rfl rfl ?_
        refine Run.one (ok_move rfl rfl) rfl rfl rfl ?_
        refine Run.one (ok_move rfl rfl) (gB rfl rfl rfl rfl) rfl rfl ?_
        refine Run.one (ok_move rfl rfl) (gB rfl rfl rfl rfl) rfl rfl ?_
        refine Run.one ((ok_cmp rfl rfl rfl rfl).sub (bool_eq (c := false) (by simp))) (gB rfl rfl rfl rfl) rfl rfl ?_
        refine Run.one (ok_pick rfl rfl rfl) rfl rfl rfl ?_
        refine Run.nil ?_
        refine T_condF rfl rfl ?_
        refine T_skip ?_
        refine T_regionS ?_
        refine Run.one (ok_move rfl rfl) rfl rfl rfl ?_
        refine Run.one (ok_call rfl rfl (number_spec (by omega))) rfl rfl rfl ?_
        refine Run.one (ok_move rfl rfl) rfl rfl rfl ?_
        refine Run.one (ok_extract rfl rfl rfl) rfl rfl rfl ?_
        refine Run.one (ok_extract rfl rfl rfl) rfl rfl rfl ?_
        refine Run.one (ok_extract rfl rfl rfl) rfl rfl rfl ?_
        refine Run.alloc rfl rfl rfl rfl rfl fun b15 => ?_
        refine Run.store 0 rfl rfl rfl rfl rfl rfl rfl rfl rfl ?_
        refine Run.one (ok_assign rfl rfl) rfl rfl rfl ?_
        refine Run.one (ok_assign rfl rfl) rfl rfl rfl ?_
        refine Run.nil ?_
        refine T_regionS ?_
        refine Run.one (ok_move rfl rfl) rfl rfl rfl ?_
        refine Run.one (ok_call rfl rfl (rnumber_spec (by omega))) rfl rfl rfl ?_
        refine Run.one (ok_move rfl rfl) rfl rfl rfl ?_
        refine Run.one (ok_extract rfl rfl rfl) rfl rfl rfl ?_
        refine Run.one (ok_extract rfl rfl rfl) rfl rfl rfl ?_
        refine Run.one (ok_extract rfl rfl rfl) rfl rfl rfl ?_
        refine Run.alloc rfl rfl rfl rfl rfl fun b17 => ?_
        refine Run.store 0 rfl rfl rfl rfl rfl rfl rfl rfl rfl ?_
        refine Run.one (ok_assign rfl rfl) rfl rfl rfl ?_
        refine Run.one (ok_assign rfl rfl) rfl rfl rfl ?_
        refine Run.nil ?_
        refine T_drawS 33 (by kernel_rfl) ?_
        refine Run.one (ok_load_own_agg 1 rfl rfl rfl rfl rfl) rfl rfl rfl ?_
        refine Run.one (ok_call rfl rfl (rqNorm_spec (q := (num3 s).1) (k := 7) (by decide))) rfl rfl rfl ?_
        refine Run.one (ok_load_own_agg 0 rfl rfl rfl rfl rfl) rfl rfl rfl ?_
        refine Run.one (ok_call rfl rfl (rqNorm_spec (q := (num3 s).1) (k := 7) (by decide))) rfl rfl rfl ?_
        refine Run.one ((ok_call rfl rfl toldq_spec).sub (bool_eq (c := true) (by simp))) rfl rfl rfl ?_
        refine Run.one (ok_move rfl rfl) rfl rfl rfl ?_
        refine Run.one (ok_move rfl rfl) (gB rfl rfl rfl rfl) rfl rfl ?_
        refine Run.one (ok_move rfl rfl) (gB rfl rfl rfl rfl) rfl rfl ?_
        refine Run.one ((ok_cmp rfl rfl rfl rfl).sub (bool_eq (c := true) (by simp))) (gB rfl rfl rfl rfl) rfl rfl ?_
        refine Run.one (ok_pick rfl rfl rfl) rfl rfl rfl ?_
        refine Run.one (ok_move rfl rfl) rfl rfl rfl ?_
        refine Run.one (ok_move rfl rfl) (gB rfl rfl rfl rfl) rfl rfl ?_
        refine Run.one (ok_move rfl rfl) (gB rfl rfl rfl rfl) rfl rfl ?_
        refine Run.one ((ok_cmp rfl rfl rfl rfl).sub (bool_eq (c := true) (by simp))) (gB rfl rfl rfl rfl) rfl rfl ?_
        refine Run.one (ok_pick rfl rfl rfl) rfl rfl rfl ?_
        refine Run.one (ok_move rfl rfl) rfl rfl rfl ?_
        refine Run.one (ok_load_agg rfl rfl rfl rfl) (gB rfl rfl rfl rfl) rfl rfl ?_
        refine Run.one (ok_call rfl rfl (ltext_spec (q := q) (k := 41) (by decide))) (gB rfl rfl rfl rfl) rfl rfl ?_
        refine Run.one (ok_load_agg rfl rfl rfl rfl) (gB rfl rfl rfl rfl) rfl rfl ?_
        refine Run.one (ok_call rfl rfl (rltext_spec (q := q) (k := 41) (by decide))) (gB rfl rfl rfl rfl) rfl rfl ?_
        refine Run.one ((ok_cmp_str rfl rfl rfl rfl).sub (bool_eq (c := true) (by simp))) (gB rfl rfl rfl rfl) rfl rfl ?_
        refine Run.one (ok_pick rfl rfl rfl) rfl rfl rfl ?_
        refine Run.one (ok_move rfl rfl) rfl rfl rfl ?_
        refine Run.one (ok_move rfl rfl) (gB rfl rfl rfl rfl) rfl rfl ?_
        refine Run.one (ok_call rfl rfl (ljoin_spec hj)) (gB rfl rfl rfl rfl) rfl rfl ?_
        refine Run.one (ok_move rfl rfl) (gB rfl rfl rfl rfl) rfl rfl ?_
        refine Run.one (ok_call rfl rfl (rjoin_spec hj)) (gB rfl rfl rfl rfl) rfl rfl ?_
        refine Run.one ((ok_cmp_str rfl rfl rfl rfl).sub (bool_eq (c := true) (by simp))) (gB rfl rfl rfl rfl) rfl rfl ?_
        refine Run.one (ok_pick rfl rfl rfl) rfl rfl rfl ?_
        refine Run.one (ok_move rfl rfl) rfl rfl rfl ?_
        refine Run.one (ok_call rfl rfl wakes11_spec) (gB rfl rfl rfl rfl) rfl rfl ?_
        refine Run.one (ok_pick rfl rfl rfl) rfl rfl rfl ?_
        refine Run.one (ok_assign rfl rfl) rfl rfl rfl ?_
        refine Run.nil ?_
        refine Run.nil ?_
        refine T_ret ?_
        exact ⟨_, [], .one (.tmp rfl), List.nil_sublist _, rfl, rfl⟩
end Go.Proofs
