/- The law VecCross, on the facts. -/
import Derived.Test.YtdnfcmfolllcnaaGreatDoorSny
import Derived.Test.YtdnfcmfolllcnaaGreatDoorSv3
namespace Go.Proofs
open Go Go.Sv Num
variable {G : Imm}
theorem vecCross_spec [Tab G] {b1 c1 : Bool} {l1 d1 m1 e1 : List Nat} (hl1 : Lim l1 ∧ Lim d1) (hm1 : Lim m1 ∧ Lim e1) {b2 c2 : Bool} {l2 d2 m2 e2 : List Nat} (hl2 : Lim l2 ∧ Lim d2) (hm2 : Lim m2 ∧ Lim e2) {b3 c3 : Bool} {l3 d3 m3 e3 : List Nat} (hl3 : Lim l3 ∧ Lim d3) (hm3 : Lim m3 ∧ Lim e3) {bt : Bool} {lt dt : List Nat} (hlt : Lim lt ∧ Lim dt) : PSpec Tryz.prog G 4 [aggS [boolS b1, natS l1, natS d1, boolS c1, natS m1, natS e1], aggS [boolS b2, natS l2, natS d2, boolS c2, natS m2, natS e2], aggS [boolS b3, natS l3, natS d3, boolS c3, natS m3, natS e3], aggS [boolS bt, natS lt, natS dt]] (boolS true) := by
  refine fn_spec Tryz.func4 rfl rfl rfl ?_
  refine T_regionS ?_
  refine Run.one (ok_box rfl rfl) rfl rfl rfl ?_
  refine Run.one (ok_box rfl rfl) rfl rfl rfl ?_
  refine Run.one (ok_box rfl rfl) rfl rfl rfl ?_
  refine Run.one (ok_box rfl rfl) rfl rfl rfl ?_
  refine Run.one (ok_assign rfl rfl) rfl rfl rfl ?_
  refine Run.nil ?_
  refine T_seq ?_
  refine T_regionS ?_
  refine Run.one (ok_load_agg rfl rfl rfl rfl) rfl rfl rfl ?_
  refine Run.one (ok_load_agg rfl rfl rfl rfl) rfl rfl rfl ?_
  refine Run.one (ok_load_agg rfl rfl rfl rfl) rfl rfl rfl ?_
  refine Run.one (ok_buildSlice rfl rfl (by decide) rfl (by simp) (by kernel_rfl) (by kernel_rfl)) rfl rfl rfl ?_
  refine Run.oneB (ok_call rfl rfl ((long_spec (xs := [((b1, l1, d1), (c1, m1, e1)), ((b2, l2, d2), (c2, m2, e2)), ((b3, l3, d3), (c3, m3, e3))])).args ⟨fun _ _ h => sl_pair (f := pc) [((b1, l1, d1), (c1, m1, e1)), ((b2, l2, d2), (c2, m2, e2)), ((b3, l3, d3), (c3, m3, e3))] h, trivial⟩)) rfl rfl rfl (fun h1_4 => ?_) (fun h1_4 => ?_)
  · refine Run.one (ok_move rfl rfl) rfl rfl rfl ?_
    refine Run.no ⟨_, _, rfl, rfl, rfl⟩ rfl rfl ?_
    refine Run.no ⟨_, _, rfl, rfl, rfl⟩ rfl rfl ?_
    refine Run.no ⟨_, _, rfl, rfl, rfl⟩ rfl rfl ?_
    refine Run.no ⟨_, _, rfl, rfl, rfl⟩ rfl rfl ?_
    refine Run.no ⟨_, _, rfl, rfl, rfl⟩ rfl rfl ?_
    refine Run.no ⟨_, _, rfl, rfl, rfl⟩ rfl rfl ?_
    refine Run.no ⟨_, _, rfl, rfl, rfl⟩ rfl rfl ?_
    refine Run.no ⟨_, _, rfl, rfl, rfl⟩ rfl rfl ?_
    refine Run.no ⟨_, _, rfl, rfl, rfl⟩ rfl rfl ?_
    refine Run.one (ok_pick rfl rfl rfl) rfl rfl rfl ?_
    refine Run.nil ?_
    refine T_condT rfl rfl ?_
    refine T_regionS ?_
    refine Run.one (ok_call rfl rfl wakes_spec) rfl rfl rfl ?_
    refine Run.one (ok_assign rfl rfl) rfl rfl rfl ?_
    refine Run.nil ?_
    refine T_ret ?_
    exact ⟨_, [], .one (.tmp rfl), List.nil_sublist _, rfl, rfl⟩
  · refine Run.one (ok_move rfl rfl) rfl rfl rfl ?_
    refine Run.one (ok_fieldAddr rfl rfl rfl) ⟨_, _, rfl, rfl, rfl⟩ rfl rfl ?_
    refine Run.one (ok_fieldAddr rfl rfl rfl) ⟨_, _, rfl, rfl, rfl⟩ rfl rfl ?_
    refine Run.one (ok_load rfl rfl) ⟨_, _, rfl, rfl, rfl⟩ rfl rfl ?_
    refine Run.one (ok_len rfl rfl) ⟨_, _, rfl, rfl, rfl⟩ rfl rfl ?_
    refine Run.one (ok_fieldAddr rfl rfl rfl) ⟨_, _, rfl, rfl, rfl⟩ rfl rfl ?_
    refine Run.one (ok_load rfl rfl) ⟨_, _, rfl, rfl, rfl⟩ rfl rfl ?_
    refine Run.one (ok_len rfl rfl) ⟨_, _, rfl, rfl, rfl⟩ rfl rfl ?_
    refine Run.one (ok_max rfl rfl rfl) ⟨_, _, rfl, rfl, rfl⟩ rfl rfl ?_
    refine Run.one (ok_cmp rfl rfl rfl rfl) ⟨_, _, rfl, rfl, rfl⟩ rfl rfl ?_
    refine Run.one (ok_pick rfl rfl rfl) rfl rfl rfl ?_
    refine Run.nil ?_
    refine T_cond rfl rfl (fun h27 => ?_) (fun h27 => ?_)
    · have k27 := of_decide_eq_true h27
      refine T_regionS ?_
      refine Run.one (ok_call rfl rfl wakes_spec) rfl rfl rfl ?_
      refine Run.one (ok_assign rfl rfl) rfl rfl rfl ?_
      refine Run.nil ?_
      refine T_ret ?_
      exact ⟨_, [], .one (.tmp rfl), List.nil_sublist _, rfl, rfl⟩
    · have k27 := of_decide_eq_false h27
      have hsz : ∀ p ∈ [((b1, l1, d1), (c1, m1, e1)), ((b2, l2, d2), (c2, m2, e2)), ((b3, l3, d3), (c3, m3, e3))], psz p ≤ 3 := fun p hp => Nat.not_lt.1 fun h => of_decide_eq_false h1_4 ⟨p, hp, h⟩
      have s1 : max (max (max l1.length d1.length) m1.length) e1.length ≤ 3 := hsz ((b1, l1, d1), (c1, m1, e1)) (by simp)
      obtain ⟨x1, hxe1⟩ : ∃ x, x = qv (b1, l1, d1) := ⟨_, rfl⟩
      obtain ⟨y1, hye1⟩ : ∃ y, y = qv (c1, m1, e1) := ⟨_, rfl⟩
      have hx1 : IsQ b1 l1 d1 x1 3 := hxe1 ▸ isQ_lim ⟨hl1.1, hl1.2, by omega, by omega⟩ (by decide)
      have hy1 : IsQ c1 m1 e1 y1 3 := hye1 ▸ isQ_lim ⟨hm1.1, hm1.2, by omega, by omega⟩ (by decide)
      have hbx1 := hx1.bq
      have hby1 := hy1.bq
      have s2 : max (max (max l2.length d2.length) m2.length) e2.length ≤ 3 := hsz ((b2, l2, d2), (c2, m2, e2)) (by simp)
      obtain ⟨x2, hxe2⟩ : ∃ x, x = qv (b2, l2, d2) := ⟨_, rfl⟩
      obtain ⟨y2, hye2⟩ : ∃ y, y = qv (c2, m2, e2) := ⟨_, rfl⟩
      have hx2 : IsQ b2 l2 d2 x2 3 := hxe2 ▸ isQ_lim ⟨hl2.1, hl2.2, by omega, by omega⟩ (by decide)
      have hy2 : IsQ c2 m2 e2 y2 3 := hye2 ▸ isQ_lim ⟨hm2.1, hm2.2, by omega, by omega⟩ (by decide)
      have hbx2 := hx2.bq
      have hby2 := hy2.bq
      have s3 : max (max (max l3.length d3.length) m3.length) e3.length ≤ 3 := hsz ((b3, l3, d3), (c3, m3, e3)) (by simp)
      obtain ⟨x3, hxe3⟩ : ∃ x, x = qv (b3, l3, d3) := ⟨_, rfl⟩
      obtain ⟨y3, hye3⟩ : ∃ y, y = qv (c3, m3, e3) := ⟨_, rfl⟩
      have hx3 : IsQ b3 l3 d3 x3 3 := hxe3 ▸ isQ_lim ⟨hl3.1, hl3.2, by omega, by omega⟩ (by decide)
      have hy3 : IsQ c3 m3 e3 y3 3 := hye3 ▸ isQ_lim ⟨hm3.1, hm3.2, by omega, by omega⟩ (by decide)
      have hbx3 := hx3.bq
      have hby3 := hy3.bq
      obtain ⟨t, hte⟩ : ∃ t, t = qv (bt, lt, dt) := ⟨_, rfl⟩
      have ht : IsQ bt lt dt t 3 := hte ▸ isQ_lim ⟨hlt.1, hlt.2, by omega, by omega⟩ (by decide)
      have hbt := ht.bq
      refine T_skip ?_
      refine T_regionS ?_
      refine Run.one (ok_load_agg rfl rfl rfl rfl) rfl rfl rfl ?_
      refine Run.one (ok_load_agg rfl rfl rfl rfl) rfl rfl rfl ?_
      refine Run.one (ok_call rfl rfl vCross_spec) rfl rfl rfl ?_
      refine Run.alloc rfl rfl rfl rfl rfl fun b9 => ?_
      refine Run.store 0 rfl rfl rfl rfl rfl rfl rfl rfl rfl ?_
      refine Run.nil ?_
      refine T_seq ?_
      refine T_drawS 29 (by kernel_rfl) ?_
      refine Run.one (ok_load_own_agg 0 rfl rfl rfl rfl rfl) rfl rfl rfl ?_
      refine Run.one (ok_load_agg rfl rfl rfl rfl) rfl rfl rfl ?_
      refine Run.one (ok_load_agg rfl rfl rfl rfl) rfl rfl rfl ?_
      refine Run.one (ok_call rfl rfl vCross_spec) rfl rfl rfl ?_
      refine Run.one (ok_buildSlice rfl rfl (by decide) rfl (by simp) rfl rfl) rfl rfl rfl ?_
      refine Run.one (ok_call rfl rfl rqadd2_spec) rfl rfl rfl ?_
      refine Run.one (ok_call rfl rfl (rqOf_spec (n := 0) (q := 0) (by decide) (by decide))) rfl rfl rfl ?_
      refine Run.one ((ok_call rfl rfl rqsame_spec).sub (bool_eq (c := true) (decide_eq_true (by grind)))) rfl rfl rfl ?_
      refine Run.one (ok_not rfl rfl) rfl rfl rfl ?_
      refine Run.one (ok_move rfl rfl) rfl rfl rfl ?_
      refine Run.one (ok_load_agg rfl rfl rfl rfl) ⟨_, _, rfl, rfl, rfl⟩ rfl rfl ?_
      refine Run.one (ok_load_agg rfl rfl rfl rfl) ⟨_, _, rfl, rfl, rfl⟩ rfl rfl ?_
      refine Run.one (ok_call rfl rfl vCross_spec) ⟨_, _, rfl, rfl, rfl⟩ rfl rfl ?_
      refine Run.one ((ok_call rfl rfl rqSign_spec).sub (int_eq (n := 0) (tri_eq.2 (by grind)))) ⟨_, _, rfl, rfl, rfl⟩ rfl rfl ?_
      refine Run.one (ok_cmp rfl rfl rfl rfl) ⟨_, _, rfl, rfl, rfl⟩ rfl rfl ?_
      refine Run.one (ok_pick rfl rfl rfl) rfl rfl rfl ?_
      refine Run.one (ok_move rfl rfl) rfl rfl rfl ?_
      refine Run.one (ok_load_agg rfl rfl rfl rfl) ⟨_, _, rfl, rfl, rfl⟩ rfl rfl ?_
      refine Run.one (ok_load_agg rfl rfl rfl rfl) ⟨_, _, rfl, rfl, rfl⟩ rfl rfl ?_
      refine Run.one (ok_call rfl rfl vScale_spec) ⟨_, _, rfl, rfl, rfl⟩ rfl rfl ?_
      refine Run.one (ok_load_agg rfl rfl rfl rfl) ⟨_, _, rfl, rfl, rfl⟩ rfl rfl ?_
      refine Run.one (ok_call rfl rfl vCross_spec) ⟨_, _, rfl, rfl, rfl⟩ rfl rfl ?_
      refine Run.one (ok_load_own_agg 0 rfl rfl rfl rfl rfl) ⟨_, _, rfl, rfl, rfl⟩ rfl rfl ?_
      refine Run.one (ok_load_agg rfl rfl rfl rfl) ⟨_, _, rfl, rfl, rfl⟩ rfl rfl ?_
      refine Run.one (ok_buildSlice rfl rfl (by decide) rfl (by simp) rfl rfl) ⟨_, _, rfl, rfl, rfl⟩ rfl rfl ?_
      refine Run.one (ok_call rfl rfl rqmul2_spec) ⟨_, _, rfl, rfl, rfl⟩ rfl rfl ?_
      refine Run.one ((ok_call rfl rfl rqsame_spec).sub (bool_eq (c := true) (decide_eq_true (by grind)))) ⟨_, _, rfl, rfl, rfl⟩ rfl rfl ?_
      refine Run.one (ok_not rfl rfl) ⟨_, _, rfl, rfl, rfl⟩ rfl rfl ?_
      refine Run.one (ok_pick rfl rfl rfl) rfl rfl rfl ?_
      refine Run.nil ?_
      refine Run.nil ?_
      refine T_condF rfl rfl ?_
      refine T_skip ?_
      refine T_seq ?_
      refine T_drawS 40 (by kernel_rfl) ?_
      refine Run.one (ok_load_agg rfl rfl rfl rfl) rfl rfl rfl ?_
      refine Run.one (ok_load_agg rfl rfl rfl rfl) rfl rfl rfl ?_
      refine Run.one (ok_load_agg rfl rfl rfl rfl) rfl rfl rfl ?_
      refine Run.one (ok_call rfl rfl vAdd_spec) rfl rfl rfl ?_
      refine Run.one (ok_call rfl rfl vCross_spec) rfl rfl rfl ?_
      refine Run.one (ok_load_own_agg 0 rfl rfl rfl rfl rfl) rfl rfl rfl ?_
      refine Run.one (ok_load_agg rfl rfl rfl rfl) rfl rfl rfl ?_
      refine Run.one (ok_load_agg rfl rfl rfl rfl) rfl rfl rfl ?_
      refine Run.one (ok_call rfl rfl vCross_spec) rfl rfl rfl ?_
      refine Run.one (ok_buildSlice rfl rfl (by decide) rfl (by simp) rfl rfl) rfl rfl rfl ?_
      refine Run.one (ok_call rfl rfl rqadd2_spec) rfl rfl rfl ?_
      refine Run.one ((ok_call rfl rfl rqsame_spec).sub (bool_eq (c := true) (decide_eq_true (by grind)))) rfl rfl rfl ?_
      refine Run.one (ok_not rfl rfl) rfl rfl rfl ?_
      refine Run.one (ok_move rfl rfl) rfl rfl rfl ?_
      refine Run.one (ok_load_agg rfl rfl rfl rfl) ⟨_, _, rfl, rfl, rfl⟩ rfl rfl ?_
      refine Run.one (ok_load_agg rfl rfl rfl rfl) ⟨_, _, rfl, rfl, rfl⟩ rfl rfl ?_
      refine Run.one (ok_load_agg rfl rfl rfl rfl) ⟨_, _, rfl, rfl, rfl⟩ rfl rfl ?_
      refine Run.one (ok_call rfl rfl vAdd_spec) ⟨_, _, rfl, rfl, rfl⟩ rfl rfl ?_
      refine Run.one (ok_call rfl rfl vDot_spec) ⟨_, _, rfl, rfl, rfl⟩ rfl rfl ?_
      refine Run.one (ok_load_agg rfl rfl rfl rfl) ⟨_, _, rfl, rfl, rfl⟩ rfl rfl ?_
      refine Run.one (ok_load_agg rfl rfl rfl rfl) ⟨_, _, rfl, rfl, rfl⟩ rfl rfl ?_
      refine Run.one (ok_call rfl rfl vDot_spec) ⟨_, _, rfl, rfl, rfl⟩ rfl rfl ?_
      refine Run.one (ok_load_agg rfl rfl rfl rfl) ⟨_, _, rfl, rfl, rfl⟩ rfl rfl ?_
      refine Run.one (ok_load_agg rfl rfl rfl rfl) ⟨_, _, rfl, rfl, rfl⟩ rfl rfl ?_
      refine Run.one (ok_call rfl rfl vDot_spec) ⟨_, _, rfl, rfl, rfl⟩ rfl rfl ?_
      refine Run.one (ok_buildSlice rfl rfl (by decide) rfl (by simp) rfl rfl) ⟨_, _, rfl, rfl, rfl⟩ rfl rfl ?_
      refine Run.one (ok_call rfl rfl rqadd2_spec) ⟨_, _, rfl, rfl, rfl⟩ rfl rfl ?_
      refine Run.one ((ok_call rfl rfl rqsame_spec).sub (bool_eq (c := true) (decide_eq_true (by grind)))) ⟨_, _, rfl, rfl, rfl⟩ rfl rfl ?_
      refine Run.one (ok_not rfl rfl) ⟨_, _, rfl, rfl, rfl⟩ rfl rfl ?_
      refine Run.one (ok_pick rfl rfl rfl) rfl rfl rfl ?_
      refine Run.one (ok_move rfl rfl) rfl rfl rfl ?_
      refine Run.one (ok_load_agg rfl rfl rfl rfl) ⟨_, _, rfl, rfl, rfl⟩ rfl rfl ?_
      refine Run.one (ok_load_agg rfl rfl rfl rfl) ⟨_, _, rfl, rfl, rfl⟩ rfl rfl ?_
      refine Run.one (ok_call rfl rfl vDot_spec) ⟨_, _, rfl, rfl, rfl⟩ rfl rfl ?_
      refine Run.one (ok_load_agg rfl rfl rfl rfl) ⟨_, _, rfl, rfl, rfl⟩ rfl rfl ?_
      refine Run.one (ok_load_agg rfl rfl rfl rfl) ⟨_, _, rfl, rfl, rfl⟩ rfl rfl ?_
      refine Run.one (ok_call rfl rfl vDot_spec) ⟨_, _, rfl, rfl, rfl⟩ rfl rfl ?_
      refine Run.one ((ok_call rfl rfl rqsame_spec).sub (bool_eq (c := true) (decide_eq_true (by grind)))) ⟨_, _, rfl, rfl, rfl⟩ rfl rfl ?_
      refine Run.one (ok_not rfl rfl) ⟨_, _, rfl, rfl, rfl⟩ rfl rfl ?_
      refine Run.one (ok_pick rfl rfl rfl) rfl rfl rfl ?_
      refine Run.nil ?_
      refine Run.nil ?_
      refine T_condF rfl rfl ?_
      refine T_skip ?_
      refine T_draw2S 12 (by kernel_rfl) rfl rfl rfl rfl ?_
      refine RunE.lat (ok_load_agg rfl rfl rfl rfl) rfl rfl rfl ?_
      refine RunE.lat (ok_call rfl rfl vNeg_spec) rfl rfl rfl ?_
      refine RunE.lat (ok_field_agg (ft := 27) Tryz.underlying29 rfl rfl rfl rfl rfl rfl) rfl rfl rfl ?_
      refine RunE.lat (ok_fieldAddr rfl rfl rfl) rfl rfl rfl ?_
      refine RunE.lat (ok_load_agg rfl rfl rfl rfl) rfl rfl rfl ?_
      refine RunE.lat (ok_build rfl rfl rfl) rfl rfl rfl ?_
      refine RunE.lat (ok_load_agg rfl rfl rfl rfl) rfl rfl rfl ?_
      refine RunE.lat (ok_call rfl rfl vNeg_spec) rfl rfl rfl ?_
      refine RunE.lat (ok_field_agg (ft := 27) Tryz.underlying29 rfl rfl rfl rfl rfl rfl) rfl rfl rfl ?_
      refine RunE.lat (ok_fieldAddr rfl rfl rfl) rfl rfl rfl ?_
      refine RunE.lat (ok_load_agg rfl rfl rfl rfl) rfl rfl rfl ?_
      refine RunE.lat (ok_build rfl rfl rfl) rfl rfl rfl ?_
      refine RunE.nil ?_
      refine ⟨⟨_, _, _, _, _, _, _, _, (show 10 ≠ 11 by decide), NewB.mk1 rfl rfl rfl rfl rfl rfl rfl (by intro h; cases h) (by intro h; cases h) rfl rfl rfl, NewB.mk1 rfl rfl rfl rfl rfl rfl rfl (by intro h; cases h) (by intro h; cases h) rfl rfl rfl, fun b10 b11 => ?_⟩⟩
      refine Run.nil ?_
      refine T_drawS 29 (by kernel_rfl) ?_
      refine Run.one (ok_load_own_agg 1 rfl rfl rfl rfl rfl) rfl rfl rfl ?_
      refine Run.one (ok_load_own_agg 0 rfl rfl rfl rfl rfl) rfl rfl rfl ?_
      refine Run.one (ok_call rfl rfl vCross_spec) rfl rfl rfl ?_
      refine Run.one (ok_load_own_agg 2 rfl rfl rfl rfl rfl) rfl rfl rfl ?_
      refine Run.one ((ok_call rfl rfl rqsame_spec).sub (bool_eq (c := true) (decide_eq_true (by grind)))) rfl rfl rfl ?_
      refine Run.one (ok_move rfl rfl) rfl rfl rfl ?_
      refine Run.one (ok_load_own_agg 1 rfl rfl rfl rfl rfl) ⟨_, _, rfl, rfl, rfl⟩ rfl rfl ?_
      refine Run.one (ok_load_own_agg 0 rfl rfl rfl rfl rfl) ⟨_, _, rfl, rfl, rfl⟩ rfl rfl ?_
      refine Run.one (ok_call rfl rfl vDot_spec) ⟨_, _, rfl, rfl, rfl⟩ rfl rfl ?_
      refine Run.one (ok_load_agg rfl rfl rfl rfl) ⟨_, _, rfl, rfl, rfl⟩ rfl rfl ?_
      refine Run.one (ok_load_agg rfl rfl rfl rfl) ⟨_, _, rfl, rfl, rfl⟩ rfl rfl ?_
      refine Run.one (ok_call rfl rfl vDot_spec) ⟨_, _, rfl, rfl, rfl⟩ rfl rfl ?_
      refine Run.one ((ok_call rfl rfl rqsame_spec).sub (bool_eq (c := true) (decide_eq_true (by grind)))) ⟨_, _, rfl, rfl, rfl⟩ rfl rfl ?_
      refine Run.one (ok_pick rfl rfl rfl) rfl rfl rfl ?_
      refine Run.one (ok_move rfl rfl) rfl rfl rfl ?_
      refine Run.one (ok_load_own_agg 1 rfl rfl rfl rfl rfl) ⟨_, _, rfl, rfl, rfl⟩ rfl rfl ?_
      refine Run.one (ok_load_agg rfl rfl rfl rfl) ⟨_, _, rfl, rfl, rfl⟩ rfl rfl ?_
      refine Run.one (ok_call rfl rfl vCross_spec) ⟨_, _, rfl, rfl, rfl⟩ rfl rfl ?_
      refine Run.one (ok_call rfl rfl (rqOf_spec (n := 0) (q := 0) (by decide) (by decide))) ⟨_, _, rfl, rfl, rfl⟩ rfl rfl ?_
      refine Run.one (ok_load_agg rfl rfl rfl rfl) ⟨_, _, rfl, rfl, rfl⟩ rfl rfl ?_
      refine Run.one (ok_load_agg rfl rfl rfl rfl) ⟨_, _, rfl, rfl, rfl⟩ rfl rfl ?_
      refine Run.one (ok_call rfl rfl vDot_spec) ⟨_, _, rfl, rfl, rfl⟩ rfl rfl ?_
      refine Run.one (ok_call rfl rfl rqsub_spec) ⟨_, _, rfl, rfl, rfl⟩ rfl rfl ?_
      refine Run.one ((ok_call rfl rfl rqsame_spec).sub (bool_eq (c := true) (decide_eq_true (by grind)))) ⟨_, _, rfl, rfl, rfl⟩ rfl rfl ?_
      refine Run.one (ok_pick rfl rfl rfl) rfl rfl rfl ?_
      refine Run.one (ok_move rfl rfl) rfl rfl rfl ?_
      refine Run.one (ok_call rfl rfl wakes_spec) ⟨_, _, rfl, rfl, rfl⟩ rfl rfl ?_
      refine Run.one (ok_pick rfl rfl rfl) rfl rfl rfl ?_
      refine Run.one (ok_assign rfl rfl) rfl rfl rfl ?_
      refine Run.nil ?_
      refine Run.nil ?_
      refine T_ret ?_
      exact ⟨_, [], .one (.tmp rfl), List.nil_sublist _, rfl, rfl⟩
end Go.Proofs
