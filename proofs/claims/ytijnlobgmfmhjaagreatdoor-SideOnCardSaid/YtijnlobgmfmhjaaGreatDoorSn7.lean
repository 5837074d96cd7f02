/- The law SideOn, on the facts. -/
import Derived.Test.YtijnlobgmfmhjaaGreatDoorSn2
namespace Go.Proofs
open Go Go.Sv Num
variable {G : Imm}
theorem tri_le_iff {p q : Rat} : tri p q ≤ 0 ↔ p ≤ q := by unfold tri; split <;> (try split) <;> constructor <;> intro h <;> first | grind | (exfalso; grind)
theorem tri_ge_iff {p q : Rat} : 0 ≤ tri p q ↔ q ≤ p := by unfold tri; split <;> (try split) <;> constructor <;> intro h <;> first | grind | (exfalso; grind)
theorem tri_gt_iff {p q : Rat} : 0 < tri p q ↔ q < p := by unfold tri; split <;> (try split) <;> constructor <;> intro h <;> first | grind | (exfalso; grind)
theorem btw_far {a b t : Rat} : btw a (a + (b - a) * t) b ↔ a = b ∨ 1 ≤ t := by
  obtain ⟨w, hw⟩ : ∃ w, w = b - a := ⟨_, rfl⟩
  have hb : b = a + w := by grind
  rw [← hw, hb]
  obtain ⟨z, hz⟩ : ∃ z, z = w * t := ⟨_, rfl⟩
  rw [← hz]
  constructor
  · intro h
    by_cases h0 : w = 0
    · left; rw [h0]; grind
    · right
      refine Rat.not_lt.1 fun ht => ?_
      by_cases hn : w < 0
      · have g1 : z ≤ w := by unfold btw at h; grind
        have := Rat.mul_pos (show 0 < -w by grind) (show 0 < 1 - t by grind)
        grind
      · have hp : 0 < w := by grind
        have g1 : w ≤ z := by unfold btw at h; grind
        have := Rat.mul_pos hp (show 0 < 1 - t by grind)
        grind
  · rintro (h | h1)
    · have hw0 : w = 0 := by grind
      rw [hz, hw0]; unfold btw; grind
    · by_cases hs : 0 ≤ w
      · have g2 := Rat.mul_nonneg hs (show 0 ≤ t - 1 by grind)
        left; constructor <;> grind
      · have g2 := Rat.mul_nonneg (show 0 ≤ -w by grind) (show 0 ≤ t - 1 by grind)
        right; constructor <;> grind
theorem straight_at {x1 y1 x2 y2 t : Rat} : (¬ (x1 = x2 ∧ y1 = y2) ∧ (onP x1 y1 (x1 + (x2 - x1) * t) (y1 + (y2 - y1) * t) x2 y2 ∧ ¬ (x1 = x2 ∧ y1 = y2)) ∧ ¬ (x1 + (x2 - x1) * t = x2 ∧ y1 + (y2 - y1) * t = y2)) ↔ ¬ (x1 = x2 ∧ y1 = y2) ∧ 1 < t := by
  have hc : crs x1 y1 (x1 + (x2 - x1) * t) (y1 + (y2 - y1) * t) x2 y2 = 0 := by rw [crs_swap2, crs_at]; rfl
  have hx : x1 + (x2 - x1) * t = x2 ↔ x1 = x2 ∨ t = 1 := ⟨fun h => at_right.1 h.symm, fun h => (at_right.2 h).symm⟩
  have hy : y1 + (y2 - y1) * t = y2 ↔ y1 = y2 ∨ t = 1 := ⟨fun h => at_right.1 h.symm, fun h => (at_right.2 h).symm⟩
  unfold onP
  rw [hc, btw_far, btw_far, hx, hy]
  constructor
  · rintro ⟨h1, ⟨⟨_, h2, h3⟩, _⟩, h4⟩
    refine ⟨h1, ?_⟩
    have h5 : 1 ≤ t := by
      rcases h2 with h2 | h2
      · rcases h3 with h3 | h3
        · exact absurd ⟨h2, h3⟩ h1
        · exact h3
      · exact h2
    refine Rat.not_le.1 fun h6 => h4 ?_
    have h7 : t = 1 := by grind
    exact ⟨.inr h7, .inr h7⟩
  · rintro ⟨h1, h2⟩
    refine ⟨h1, ⟨⟨rfl, .inr (by grind), .inr (by grind)⟩, h1⟩, fun ⟨h3, h4⟩ => ?_⟩
    rcases h3 with h3 | h3
    · rcases h4 with h4 | h4
      · exact h1 ⟨h3, h4⟩
      · grind
    · grind
set_option maxHeartbeats 4000000 in
theorem sideOn_spec [Tab G] {b1 c1 : Bool} {l1 d1 m1 e1 : List Nat} (hl1 : Lim l1 ∧ Lim d1) (hm1 : Lim m1 ∧ Lim e1) {b2 c2 : Bool} {l2 d2 m2 e2 : List Nat} (hl2 : Lim l2 ∧ Lim d2) (hm2 : Lim m2 ∧ Lim e2) {b3 c3 : Bool} {l3 d3 m3 e3 : List Nat} (hl3 : Lim l3 ∧ Lim d3) (hm3 : Lim m3 ∧ Lim e3) {bt : Bool} {lt dt : List Nat} (hlt : Lim lt ∧ Lim dt) : PSpec Tryz.prog G 4 [aggS [boolS b1, natS l1, natS d1, boolS c1, natS m1, natS e1], aggS [boolS b2, natS l2, natS d2, boolS c2, natS m2, natS e2], aggS [boolS b3, natS l3, natS d3, boolS c3, natS m3, natS e3], aggS [boolS bt, natS lt, natS dt]] (boolS true) := by
  refine fn_spec Tryz.func4 rfl rfl rfl ?_
  refine T_regionS ?_
  refine Run.one (ok_box rfl rfl) rfl rfl rfl ?_
  refine Run.one (ok_box rfl rfl) rfl rfl rfl ?_
  refine Run.one (ok_box rfl rfl) rfl rfl rfl ?_
  refine Run.one (ok_box rfl rfl) rfl rfl rfl ?_
  refine Run.one (ok_assign rfl rfl) rfl rfl rfl ?_
  refine Run.nil ?_
  refine T_seq ?_
  refine T_regionS ?_
  refine Run.one (ok_load_agg rfl rfl rfl rfl) rfl rfl rfl ?_
  refine Run.one (ok_load_agg rfl rfl rfl rfl) rfl rfl rfl ?_
  refine Run.one (ok_load_agg rfl rfl rfl rfl) rfl rfl rfl ?_
  refine Run.one (ok_buildSlice rfl rfl (by decide) rfl (by simp) (by kernel_rfl) (by kernel_rfl)) rfl rfl rfl ?_
  refine Run.oneB (ok_call rfl rfl ((great9_spec (xs := [((b1, l1, d1), (c1, m1, e1)), ((b2, l2, d2), (c2, m2, e2)), ((b3, l3, d3), (c3, m3, e3))])).args ⟨fun _ _ h => sl_pair (f := pc) [((b1, l1, d1), (c1, m1, e1)), ((b2, l2, d2), (c2, m2, e2)), ((b3, l3, d3), (c3, m3, e3))] h, trivial⟩)) rfl rfl rfl (fun h1_4 => ?_) (fun h1_4 => ?_)
  · refine Run.one (ok_move rfl rfl) rfl rfl rfl ?_
    refine Run.no ⟨_, _, rfl, rfl, rfl⟩ rfl rfl ?_
    refine Run.no ⟨_, _, rfl, rfl, rfl⟩ rfl rfl ?_
    refine Run.no ⟨_, _, rfl, rfl, rfl⟩ rfl rfl ?_
    refine Run.one (ok_pick rfl rfl rfl) rfl rfl rfl ?_
    refine Run.nil ?_
    refine T_condT rfl rfl ?_
    refine T_regionS ?_
    refine Run.one (ok_call rfl rfl wakes9_spec) rfl rfl rfl ?_
    refine Run.one (ok_assign rfl rfl) rfl rfl rfl ?_
    refine Run.nil ?_
    refine T_ret ?_
    exact ⟨_, [], .one (.tmp rfl), List.nil_sublist _, rfl, rfl⟩
  · refine Run.one (ok_move rfl rfl) rfl rfl rfl ?_
    refine Run.one (ok_load_agg rfl rfl rfl rfl) ⟨_, _, rfl, rfl, rfl⟩ rfl rfl ?_
    refine Run.one (ok_buildSlice rfl rfl (by decide) rfl (by simp) (by kernel_rfl) (by kernel_rfl)) ⟨_, _, rfl, rfl, rfl⟩ rfl rfl ?_
    refine Run.one (ok_call rfl rfl ((rqGreat_spec (xs := [(bt, lt, dt)])).args ⟨fun _ _ h => sl_pair (f := qc) [(bt, lt, dt)] h, trivial⟩)) ⟨_, _, rfl, rfl, rfl⟩ rfl rfl ?_
    refine Run.one (ok_pick rfl rfl rfl) rfl rfl rfl ?_
    refine Run.nil ?_
    refine T_cond rfl rfl (fun h23 => ?_) (fun h23 => ?_)
    · refine T_regionS ?_
      refine Run.one (ok_call rfl rfl wakes9_spec) rfl rfl rfl ?_
      refine Run.one (ok_assign rfl rfl) rfl rfl rfl ?_
      refine Run.nil ?_
      refine T_ret ?_
      exact ⟨_, [], .one (.tmp rfl), List.nil_sublist _, rfl, rfl⟩
    · have hg0 : ¬ (20 < 3 ∨ 80 < gs tsz [((b1, l1, d1), (c1, m1, e1)), ((b2, l2, d2), (c2, m2, e2)), ((b3, l3, d3), (c3, m3, e3))] 3) := of_decide_eq_false h1_4
      simp [gs, tsz] at hg0
      have hg1 : ¬ (60 < 1 ∨ 40 < gs qtz [(bt, lt, dt)] 1) := of_decide_eq_false h23
      simp [gs, qtz] at hg1
      obtain ⟨x1, hxe1⟩ : ∃ x, x = qv (b1, l1, d1) := ⟨_, rfl⟩
      obtain ⟨y1, hye1⟩ : ∃ y, y = qv (c1, m1, e1) := ⟨_, rfl⟩
      obtain ⟨k1, hk1⟩ : ∃ k, k = l1.length + d1.length + 1 := ⟨_, rfl⟩
      obtain ⟨j1, hj1⟩ : ∃ k, k = m1.length + e1.length + 1 := ⟨_, rfl⟩
      have hx1 : IsQ b1 l1 d1 x1 k1 := hxe1 ▸ isQ_lim ⟨hl1.1, hl1.2, by omega, by omega⟩ (by omega)
      have hy1 : IsQ c1 m1 e1 y1 j1 := hye1 ▸ isQ_lim ⟨hm1.1, hm1.2, by omega, by omega⟩ (by omega)
      have hbx1 := hx1.bq
      have hby1 := hy1.bq
      obtain ⟨x2, hxe2⟩ : ∃ x, x = qv (b2, l2, d2) := ⟨_, rfl⟩
      obtain ⟨y2, hye2⟩ : ∃ y, y = qv (c2, m2, e2) := ⟨_, rfl⟩
      obtain ⟨k2, hk2⟩ : ∃ k, k = l2.length + d2.length + 1 := ⟨_, rfl⟩
      obtain ⟨j2, hj2⟩ : ∃ k, k = m2.length + e2.length + 1 := ⟨_, rfl⟩
      have hx2 : IsQ b2 l2 d2 x2 k2 := hxe2 ▸ isQ_lim ⟨hl2.1, hl2.2, by omega, by omega⟩ (by omega)
      have hy2 : IsQ c2 m2 e2 y2 j2 := hye2 ▸ isQ_lim ⟨hm2.1, hm2.2, by omega, by omega⟩ (by omega)
      have hbx2 := hx2.bq
      have hby2 := hy2.bq
      obtain ⟨x3, hxe3⟩ : ∃ x, x = qv (b3, l3, d3) := ⟨_, rfl⟩
      obtain ⟨y3, hye3⟩ : ∃ y, y = qv (c3, m3, e3) := ⟨_, rfl⟩
      obtain ⟨k3, hk3⟩ : ∃ k, k = l3.length + d3.length + 1 := ⟨_, rfl⟩
      obtain ⟨j3, hj3⟩ : ∃ k, k = m3.length + e3.length + 1 := ⟨_, rfl⟩
      have hx3 : IsQ b3 l3 d3 x3 k3 := hxe3 ▸ isQ_lim ⟨hl3.1, hl3.2, by omega, by omega⟩ (by omega)
      have hy3 : IsQ c3 m3 e3 y3 j3 := hye3 ▸ isQ_lim ⟨hm3.1, hm3.2, by omega, by omega⟩ (by omega)
      have hbx3 := hx3.bq
      have hby3 := hy3.bq
      obtain ⟨t, hte⟩ : ∃ t, t = qv (bt, lt, dt) := ⟨_, rfl⟩
      obtain ⟨kt, hkt⟩ : ∃ k, k = lt.length + dt.length + 1 := ⟨_, rfl⟩
      have ht : IsQ bt lt dt t kt := hte ▸ isQ_lim ⟨hlt.1, hlt.2, by omega, by omega⟩ (by omega)
      have hbt := ht.bq
      refine T_skip ?_
      refine T_regionS ?_
      refine Run.one (ok_load_agg rfl rfl rfl rfl) rfl rfl rfl ?_
      refine Run.one (ok_load_agg rfl rfl rfl rfl) rfl rfl rfl ?_
      refine Run.one (ok_load_agg rfl rfl rfl rfl) rfl rfl rfl ?_
      refine Run.one (ok_call rfl rfl (sOn_spec (by unfold cap; omega))) rfl rfl rfl ?_
      refine Run.one (ok_assign rfl rfl) rfl rfl rfl ?_
      refine Run.nil ?_
      refine T_seq ?_
      refine T_drawS 48 (by kernel_rfl) ?_
      refine Run.one (ok_load_agg rfl rfl rfl rfl) rfl rfl rfl ?_
      refine Run.one (ok_load_agg rfl rfl rfl rfl) rfl rfl rfl ?_
      refine Run.one (ok_load_agg rfl rfl rfl rfl) rfl rfl rfl ?_
      refine Run.one ((ok_call rfl rfl (sOn_spec (by unfold cap; omega))).sub (bool_eq (c := decide (onP x1 y1 x2 y2 x3 y3)) (decide_eq_decide.2 (onP_comm ..)))) rfl rfl rfl ?_
      refine Run.one (ok_move rfl rfl) rfl rfl rfl ?_
      refine Run.one ((ok_neq_bool rfl rfl rfl Tryz.isBool4).sub (bool_eq (c := false) (by simp))) rfl rfl rfl ?_
      refine Run.one (ok_move rfl rfl) rfl rfl rfl ?_
      refine Run.oneB (ok_move rfl rfl) ⟨_, _, rfl, rfl, rfl⟩ rfl rfl (fun h4_7 => ?_) (fun h4_7 => ?_)
      · refine Run.one (ok_move rfl rfl) ⟨_, _, rfl, rfl, rfl⟩ rfl rfl ?_
        refine Run.one (ok_load_agg rfl rfl rfl rfl) ⟨_, _, rfl, rfl, rfl⟩ rfl rfl ?_
        refine Run.one (ok_load_agg rfl rfl rfl rfl) ⟨_, _, rfl, rfl, rfl⟩ rfl rfl ?_
        refine Run.one (ok_call rfl rfl (rpFar_spec (by omega))) ⟨_, _, rfl, rfl, rfl⟩ rfl rfl ?_
        refine Run.one (ok_load_agg rfl rfl rfl rfl) ⟨_, _, rfl, rfl, rfl⟩ rfl rfl ?_
        refine Run.one (ok_load_agg rfl rfl rfl rfl) ⟨_, _, rfl, rfl, rfl⟩ rfl rfl ?_
        refine Run.one (ok_call rfl rfl (rpFar_spec (by omega))) ⟨_, _, rfl, rfl, rfl⟩ rfl rfl ?_
        refine Run.one (ok_buildSlice rfl rfl (by decide) rfl (by simp) rfl rfl) ⟨_, _, rfl, rfl, rfl⟩ rfl rfl ?_
        refine Run.one (ok_call rfl rfl (rqadd2_spec (by omega))) ⟨_, _, rfl, rfl, rfl⟩ rfl rfl ?_
        refine Run.one (ok_load_agg rfl rfl rfl rfl) ⟨_, _, rfl, rfl, rfl⟩ rfl rfl ?_
        refine Run.one (ok_load_agg rfl rfl rfl rfl) ⟨_, _, rfl, rfl, rfl⟩ rfl rfl ?_
        refine Run.one (ok_call rfl rfl (rpFar_spec (by omega))) ⟨_, _, rfl, rfl, rfl⟩ rfl rfl ?_
        refine Run.one ((ok_call rfl rfl (rqsame_spec (by omega))).sub (bool_eq (c := true) (decide_eq_true (by have h := of_decide_eq_true h4_7; have g1 := btw_dist h.2.1; have g2 := btw_dist h.2.2; grind)))) ⟨_, _, rfl, rfl, rfl⟩ rfl rfl ?_
        refine Run.one (ok_not rfl rfl) ⟨_, _, rfl, rfl, rfl⟩ rfl rfl ?_
        refine Run.one (ok_pick rfl rfl rfl) ⟨_, _, rfl, rfl, rfl⟩ rfl rfl ?_
        refine Run.one (ok_pick rfl rfl rfl) rfl rfl rfl ?_
        refine Run.one (ok_move rfl rfl) rfl rfl rfl ?_
        refine Run.one (ok_load_agg rfl rfl rfl rfl) ⟨_, _, rfl, rfl, rfl⟩ rfl rfl ?_
        refine Run.one (ok_load_agg rfl rfl rfl rfl) ⟨_, _, rfl, rfl, rfl⟩ rfl rfl ?_
        refine Run.one (ok_load_agg rfl rfl rfl rfl) ⟨_, _, rfl, rfl, rfl⟩ rfl rfl ?_
        refine Run.one ((ok_call rfl rfl (sOn_spec (by unfold cap; omega))).sub (bool_eq (c := true) (decide_eq_true ⟨crs_end0 .., btw_left .., btw_left ..⟩))) ⟨_, _, rfl, rfl, rfl⟩ rfl rfl ?_
        refine Run.one (ok_not rfl rfl) ⟨_, _, rfl, rfl, rfl⟩ rfl rfl ?_
        refine Run.one (ok_pick rfl rfl rfl) rfl rfl rfl ?_
        refine Run.one (ok_move rfl rfl) rfl rfl rfl ?_
        refine Run.one (ok_load_agg rfl rfl rfl rfl) ⟨_, _, rfl, rfl, rfl⟩ rfl rfl ?_
        refine Run.one (ok_load_agg rfl rfl rfl rfl) ⟨_, _, rfl, rfl, rfl⟩ rfl rfl ?_
        refine Run.one (ok_load_agg rfl rfl rfl rfl) ⟨_, _, rfl, rfl, rfl⟩ rfl rfl ?_
        refine Run.one ((ok_call rfl rfl (sOn_spec (by unfold cap; omega))).sub (bool_eq (c := true) (decide_eq_true ⟨crs_end .., btw_right .., btw_right ..⟩))) ⟨_, _, rfl, rfl, rfl⟩ rfl rfl ?_
        refine Run.one (ok_not rfl rfl) ⟨_, _, rfl, rfl, rfl⟩ rfl rfl ?_
        refine Run.one (ok_pick rfl rfl rfl) rfl rfl rfl ?_
        refine Run.one (ok_move rfl rfl) rfl rfl rfl ?_
        refine Run.one ((ok_move rfl rfl).sub (bool_eq (c := true) h4_7)) ⟨_, _, rfl, rfl, rfl⟩ rfl rfl ?_
        refine Run.one (ok_move rfl rfl) ⟨_, _, rfl, rfl, rfl⟩ rfl rfl ?_
        refine Run.one (ok_load_agg rfl rfl rfl rfl) ⟨_, _, rfl, rfl, rfl⟩ rfl rfl ?_
        refine Run.one (ok_load_agg rfl rfl rfl rfl) ⟨_, _, rfl, rfl, rfl⟩ rfl rfl ?_
        refine Run.one (ok_load_agg rfl rfl rfl rfl) ⟨_, _, rfl, rfl, rfl⟩ rfl rfl ?_
        refine Run.one ((ok_call rfl rfl (sSide_spec (by unfold cap; omega))).sub (int_eq (n := 0) (tri_eq.2 (of_decide_eq_true h4_7).1))) ⟨_, _, rfl, rfl, rfl⟩ rfl rfl ?_
        refine Run.one (ok_cmp rfl rfl rfl rfl) ⟨_, _, rfl, rfl, rfl⟩ rfl rfl ?_
        refine Run.one (ok_pick rfl rfl rfl) ⟨_, _, rfl, rfl, rfl⟩ rfl rfl ?_
        refine Run.one (ok_pick rfl rfl rfl) rfl rfl rfl ?_
        refine Run.nil ?_
        refine Run.nil ?_
        refine T_condF rfl rfl ?_
        refine T_skip ?_
        refine T_regionS ?_
        refine Run.one (ok_load_agg rfl rfl rfl rfl) rfl rfl rfl ?_
        refine Run.one (ok_load_agg rfl rfl rfl rfl) rfl rfl rfl ?_
        refine Run.one (ok_load_agg rfl rfl rfl rfl) rfl rfl rfl ?_
        refine Run.one (ok_call rfl rfl (rpAt_spec (by omega))) rfl rfl rfl ?_
        refine Run.alloc rfl rfl rfl rfl rfl fun b10 => ?_
        refine Run.store 0 rfl rfl rfl rfl rfl rfl rfl rfl rfl ?_
        refine Run.nil ?_
        refine T_drawS 10 (by kernel_rfl) ?_
        refine Run.one (ok_load_agg rfl rfl rfl rfl) rfl rfl rfl ?_
        refine Run.one (ok_call rfl rfl (rqSign_spec (by omega))) rfl rfl rfl ?_
        refine Run.oneB (ok_cmp rfl rfl rfl rfl) rfl rfl rfl (fun h7_2 => ?_) (fun h7_2 => ?_)
        · have k7_2 := of_decide_eq_true h7_2
          refine Run.one (ok_move rfl rfl) rfl rfl rfl ?_
          refine Run.one (ok_load_agg rfl rfl rfl rfl) ⟨_, _, rfl, rfl, rfl⟩ rfl rfl ?_
          refine Run.one (ok_call rfl rfl (rqOf_spec (n := 1) (q := 1) (by decide) (by decide))) ⟨_, _, rfl, rfl, rfl⟩ rfl rfl ?_
          refine Run.one (ok_call rfl rfl (rqcmp_spec (by omega))) ⟨_, _, rfl, rfl, rfl⟩ rfl rfl ?_
          refine Run.one (ok_cmp rfl rfl rfl rfl) ⟨_, _, rfl, rfl, rfl⟩ rfl rfl ?_
          refine Run.one ((ok_pick rfl rfl rfl).sub (bool_eq (c := decide (0 ≤ t ∧ t ≤ 1)) (decide_eq_decide.2 ⟨fun h => ⟨tri_ge_iff.1 k7_2, tri_le_iff.1 h⟩, fun h => tri_le_iff.2 h.2⟩))) rfl rfl rfl ?_
          refine Run.one (ok_assign rfl rfl) rfl rfl rfl ?_
          refine Run.nil ?_
          refine Run.nil ?_
          refine T_regionS ?_
          refine Run.one (ok_load_agg rfl rfl rfl rfl) rfl rfl rfl ?_
          refine Run.one (ok_load_agg rfl rfl rfl rfl) rfl rfl rfl ?_
          refine Run.one (ok_call rfl rfl (rpSame_spec (by omega))) rfl rfl rfl ?_
          refine Run.one (ok_assign rfl rfl) rfl rfl rfl ?_
          refine Run.nil ?_
          refine T_drawS 10 (by kernel_rfl) ?_
          refine Run.one (ok_load_agg rfl rfl rfl rfl) rfl rfl rfl ?_
          refine Run.one (ok_call rfl rfl (rqSign_spec (by omega))) rfl rfl rfl ?_
          refine Run.oneB (ok_cmp rfl rfl rfl rfl) rfl rfl rfl (fun h9_2 => ?_) (fun h9_2 => ?_)
          · have k9_2 := of_decide_eq_true h9_2
            refine Run.one (ok_move rfl rfl) rfl rfl rfl ?_
            refine Run.one (ok_load_agg rfl rfl rfl rfl) ⟨_, _, rfl, rfl, rfl⟩ rfl rfl ?_
            refine Run.one (ok_call rfl rfl (rqOf_spec (n := 1) (q := 1) (by decide) (by decide))) ⟨_, _, rfl, rfl, rfl⟩ rfl rfl ?_
            refine Run.one (ok_call rfl rfl (rqcmp_spec (by omega))) ⟨_, _, rfl, rfl, rfl⟩ rfl rfl ?_
            refine Run.one (ok_cmp rfl rfl rfl rfl) ⟨_, _, rfl, rfl, rfl⟩ rfl rfl ?_
            refine Run.one ((ok_pick rfl rfl rfl).sub (bool_eq (c := decide (0 < t ∧ t < 1)) (decide_eq_decide.2 ⟨fun h => ⟨tri_gt_iff.1 k9_2, tri_lt0.1 h⟩, fun h => tri_lt0.2 h.2⟩))) rfl rfl rfl ?_
            refine Run.one (ok_assign rfl rfl) rfl rfl rfl ?_
            refine Run.nil ?_
            refine Run.nil ?_
            refine T_drawS 47 (by kernel_rfl) ?_
            refine Run.one (ok_load_agg rfl rfl rfl rfl) rfl rfl rfl ?_
            refine Run.one (ok_load_agg rfl rfl rfl rfl) rfl rfl rfl ?_
            refine Run.one (ok_load_own_agg 0 rfl rfl rfl rfl rfl) rfl rfl rfl ?_
            refine Run.one ((ok_call rfl rfl (sOn_spec (by unfold cap; omega))).sub (bool_eq (c := decide ((0 ≤ t ∧ t ≤ 1) ∨ (x1 = x2 ∧ y1 = y2))) (decide_eq_decide.2 onP_at))) rfl rfl rfl ?_
            refine Run.oneB (ok_move rfl rfl) rfl rfl rfl (fun h10_4 => ?_) (fun h10_4 => ?_)
            · have k10_4 := of_decide_eq_true h10_4
              refine Run.one (ok_move rfl rfl) rfl rfl rfl ?_
              refine Run.no ⟨_, _, rfl, rfl, rfl⟩ rfl rfl ?_
              refine Run.one ((ok_pick rfl rfl rfl).sub (bool_eq (c := decide ((0 ≤ t ∧ t ≤ 1) ∨ (x1 = x2 ∧ y1 = y2))) (by first | exact (decide_eq_true (.inl k10_4)).symm | exact decide_eq_decide.2 ⟨.inr, fun h => h.resolve_left k10_4⟩ | exact decide_eq_decide.2 ⟨.inr, fun h => h.resolve_left fun h => k7_2 (tri_ge_iff.2 h.1)⟩))) rfl rfl rfl ?_
              refine Run.one ((ok_eql_bool rfl rfl rfl Tryz.isBool4).sub (bool_eq (c := true) (by simp))) rfl rfl rfl ?_
              refine Run.one (ok_move rfl rfl) rfl rfl rfl ?_
              refine Run.one (ok_load_agg rfl rfl rfl rfl) ⟨_, _, rfl, rfl, rfl⟩ rfl rfl ?_
              refine Run.one (ok_load_agg rfl rfl rfl rfl) ⟨_, _, rfl, rfl, rfl⟩ rfl rfl ?_
              refine Run.one (ok_load_own_agg 0 rfl rfl rfl rfl rfl) ⟨_, _, rfl, rfl, rfl⟩ rfl rfl ?_
              refine Run.one ((ok_call rfl rfl (sWithin_spec (by unfold cap; omega))).sub (bool_eq (c := decide ((0 < t ∧ t < 1) ∧ ¬ (x1 = x2 ∧ y1 = y2))) (decide_eq_decide.2 within_at))) ⟨_, _, rfl, rfl, rfl⟩ rfl rfl ?_
              refine Run.oneB (ok_move rfl rfl) ⟨_, _, rfl, rfl, rfl⟩ rfl rfl (fun h10_14 => ?_) (fun h10_14 => ?_)
              · have k10_14 := of_decide_eq_true h10_14
                refine Run.one (ok_move rfl rfl) ⟨_, _, rfl, rfl, rfl⟩ rfl rfl ?_
                refine Run.one (ok_move rfl rfl) ⟨_, _, rfl, rfl, rfl⟩ rfl rfl ?_
                refine Run.one (ok_not rfl rfl) ⟨_, _, rfl, rfl, rfl⟩ rfl rfl ?_
                refine Run.one ((ok_pick rfl rfl rfl).sub (bool_eq (c := decide ((0 < t ∧ t < 1) ∧ ¬ (x1 = x2 ∧ y1 = y2))) (by first | exact (decide_not.symm.trans (decide_eq_decide.2 ⟨fun h => ⟨k10_14, h⟩, fun h => h.2⟩)) | exact (decide_eq_false fun h => k10_14 h.1).symm | exact (decide_eq_false fun h => k9_2 (tri_gt_iff.2 h.1.1)).symm))) ⟨_, _, rfl, rfl, rfl⟩ rfl rfl ?_
                refine Run.one ((ok_eql_bool rfl rfl rfl Tryz.isBool4).sub (bool_eq (c := true) (by simp))) ⟨_, _, rfl, rfl, rfl⟩ rfl rfl ?_
                refine Run.one (ok_pick rfl rfl rfl) rfl rfl rfl ?_
                refine Run.one (ok_move rfl rfl) rfl rfl rfl ?_
                refine Run.one (ok_load_agg rfl rfl rfl rfl) ⟨_, _, rfl, rfl, rfl⟩ rfl rfl ?_
                refine Run.one (ok_load_agg rfl rfl rfl rfl) ⟨_, _, rfl, rfl, rfl⟩ rfl rfl ?_
                refine Run.one (ok_load_own_agg 0 rfl rfl rfl rfl rfl) ⟨_, _, rfl, rfl, rfl⟩ rfl rfl ?_
                refine Run.one ((ok_call rfl rfl (sSide_spec (by unfold cap; omega))).sub (int_eq (n := 0) (by rw [crs_at]; rfl))) ⟨_, _, rfl, rfl, rfl⟩ rfl rfl ?_
                refine Run.one (ok_cmp rfl rfl rfl rfl) ⟨_, _, rfl, rfl, rfl⟩ rfl rfl ?_
                refine Run.one (ok_pick rfl rfl rfl) rfl rfl rfl ?_
                refine Run.one (ok_move rfl rfl) rfl rfl rfl ?_
                refine Run.one (ok_load_agg rfl rfl rfl rfl) ⟨_, _, rfl, rfl, rfl⟩ rfl rfl ?_
                refine Run.one (ok_load_agg rfl rfl rfl rfl) ⟨_, _, rfl, rfl, rfl⟩ rfl rfl ?_
                refine Run.one (ok_load_own_agg 0 rfl rfl rfl rfl rfl) ⟨_, _, rfl, rfl, rfl⟩ rfl rfl ?_
                refine Run.one ((ok_call rfl rfl (sStraight_spec (by unfold cap; omega))).sub (bool_eq (c := decide (¬ (x1 = x2 ∧ y1 = y2) ∧ 1 < t)) (decide_eq_decide.2 straight_at))) ⟨_, _, rfl, rfl, rfl⟩ rfl rfl ?_
                refine Run.one (ok_move rfl rfl) ⟨_, _, rfl, rfl, rfl⟩ rfl rfl ?_
                refine Run.oneB (ok_not rfl rfl) ⟨_, _, rfl, rfl, rfl⟩ rfl rfl (fun h10_34 => ?_) (fun h10_34 => ?_)
                · refine Run.one (ok_move rfl rfl) ⟨_, _, rfl, rfl, rfl⟩ rfl rfl ?_
                  refine Run.one (ok_load_agg rfl rfl rfl rfl) ⟨_, _, rfl, rfl, rfl⟩ rfl rfl ?_
                  refine Run.one (ok_call rfl rfl (rqOf_spec (n := 1) (q := 1) (by decide) (by decide))) ⟨_, _, rfl, rfl, rfl⟩ rfl rfl ?_
                  refine Run.one (ok_call rfl rfl (rqcmp_spec (by omega))) ⟨_, _, rfl, rfl, rfl⟩ rfl rfl ?_
                  refine Run.one (ok_cmp rfl rfl rfl rfl) ⟨_, _, rfl, rfl, rfl⟩ rfl rfl ?_
                  refine Run.one ((ok_pick rfl rfl rfl).sub (bool_eq (c := decide (¬ (x1 = x2 ∧ y1 = y2) ∧ 1 < t)) (by first | exact decide_eq_decide.2 ⟨fun h => ⟨by rw [Bool.not_eq_true'] at h10_34; exact of_decide_eq_false h10_34, tri_gt_iff.1 h⟩, fun h => tri_gt_iff.2 h.2⟩ | exact (decide_eq_false fun h => h.1 (by simpa using h10_34)).symm))) ⟨_, _, rfl, rfl, rfl⟩ rfl rfl ?_
                  refine Run.one ((ok_eql_bool rfl rfl rfl Tryz.isBool4).sub (bool_eq (c := true) (by simp))) ⟨_, _, rfl, rfl, rfl⟩ rfl rfl ?_
                  refine Run.one (ok_pick rfl rfl rfl) rfl rfl rfl ?_
                  refine Run.one (ok_move rfl rfl) rfl rfl rfl ?_
                  refine Run.one (ok_call rfl rfl wakes9_spec) ⟨_, _, rfl, rfl, rfl⟩ rfl rfl ?_
                  refine Run.one (ok_pick rfl rfl rfl) rfl rfl rfl ?_
                  refine Run.one (ok_assign rfl rfl) rfl rfl rfl ?_
                  refine Run.nil ?_
                  refine Run.nil ?_
                  refine T_ret ?_
                  exact ⟨_, [], .one (.tmp rfl), List.nil_sublist _, rfl, rfl⟩
                · refine Run.one (ok_move rfl rfl) ⟨_, _, rfl, rfl, rfl⟩ rfl rfl ?_
                  refine Run.no ⟨_, _, rfl, rfl, rfl⟩ rfl rfl ?_
                  refine Run.no ⟨_, _, rfl, rfl, rfl⟩ rfl rfl ?_
                  refine Run.no ⟨_, _, rfl, rfl, rfl⟩ rfl rfl ?_
                  refine Run.no ⟨_, _, rfl, rfl, rfl⟩ rfl rfl ?_
                  refine Run.one ((ok_pick rfl rfl rfl).sub (bool_eq (c := decide (¬ (x1 = x2 ∧ y1 = y2) ∧ 1 < t)) (by first | exact decide_eq_decide.2 ⟨fun h => ⟨by rw [Bool.not_eq_true'] at h10_34; exact of_decide_eq_false h10_34, tri_gt_iff.1 h⟩, fun h => tri_gt_iff.2 h.2⟩ | exact (decide_eq_false fun h => h.1 (by simpa using h10_34)).symm))) ⟨_, _, rfl, rfl, rfl⟩ rfl rfl ?_
                  refine Run.one ((ok_eql_bool rfl rfl rfl Tryz.isBool4).sub (bool_eq (c := true) (by simp))) ⟨_, _, rfl, rfl, rfl⟩ rfl rfl ?_
                  refine Run.one (ok_pick rfl rfl rfl) rfl rfl rfl ?_
                  refine Run.one (ok_move rfl rfl) rfl rfl rfl ?_
                  refine Run.one (ok_call rfl rfl wakes9_spec) ⟨_, _, rfl, rfl, rfl⟩ rfl rfl ?_
                  refine Run.one (ok_pick rfl rfl rfl) rfl rfl rfl ?_
                  refine Run.one (ok_assign rfl rfl) rfl rfl rfl ?_
                  refine Run.nil ?_
                  refine Run.nil ?_
                  refine T_ret ?_
                  exact ⟨_, [], .one (.tmp rfl), List.nil_sublist _, rfl, rfl⟩
              · have k10_14 := of_decide_eq_false h10_14
                refine Run.one (ok_move rfl rfl) ⟨_, _, rfl, rfl, rfl⟩ rfl rfl ?_
                refine Run.no ⟨_, _, rfl, rfl, rfl⟩ rfl rfl ?_
                refine Run.no ⟨_, _, rfl, rfl, rfl⟩ rfl rfl ?_
                refine Run.one ((ok_pick rfl rfl rfl).sub (bool_eq (c := decide ((0 < t ∧ t < 1) ∧ ¬ (x1 = x2 ∧ y1 = y2))) (by first | exact (decide_not.symm.trans (decide_eq_decide.2 ⟨fun h => ⟨k10_14, h⟩, fun h => h.2⟩)) | exact (decide_eq_false fun h => k10_14 h.1).symm | exact (decide_eq_false fun h => k9_2 (tri_gt_iff.2 h.1.1)).symm))) ⟨_, _, rfl, rfl, rfl⟩ rfl rfl ?_
                refine Run.one ((ok_eql_bool rfl rfl rfl Tryz.isBool4).sub (bool_eq (c := true) (by simp))) ⟨_, _, rfl, rfl, rfl⟩ rfl rfl ?_
                refine Run.one (ok_pick rfl rfl rfl) rfl rfl rfl ?_
                refine Run.one (ok_move rfl rfl) rfl rfl rfl ?_
                refine Run.one (ok_load_agg rfl rfl rfl rfl) ⟨_, _, rfl, rfl, rfl⟩ rfl rfl ?_
                refine Run.one (ok_load_agg rfl rfl rfl rfl) ⟨_, _, rfl, rfl, rfl⟩ rfl rfl ?_
                refine Run.one (ok_load_own_agg 0 rfl rfl rfl rfl rfl) ⟨_, _, rfl, rfl, rfl⟩ rfl rfl ?_
                refine Run.one ((ok_call rfl rfl (sSide_spec (by unfold cap; omega))).sub (int_eq (n := 0) (by rw [crs_at]; rfl))) ⟨_, _, rfl, rfl, rfl⟩ rfl rfl ?_
                refine Run.one (ok_cmp rfl rfl rfl rfl) ⟨_, _, rfl, rfl, rfl⟩ rfl rfl ?_
                refine Run.one (ok_pick rfl rfl rfl) rfl rfl rfl ?_
                refine Run.one (ok_move rfl rfl) rfl rfl rfl ?_
                refine Run.one (ok_load_agg rfl rfl rfl rfl) ⟨_, _, rfl, rfl, rfl⟩ rfl rfl ?_
                refine Run.one (ok_load_agg rfl rfl rfl rfl) ⟨_, _, rfl, rfl, rfl⟩ rfl rfl ?_
                refine Run.one (ok_load_own_agg 0 rfl rfl rfl rfl rfl) ⟨_, _, rfl, rfl, rfl⟩ rfl rfl ?_
                refine Run.one ((ok_call rfl rfl (sStraight_spec (by unfold cap; omega))).sub (bool_eq (c := decide (¬ (x1 = x2 ∧ y1 = y2) ∧ 1 < t)) (decide_eq_decide.2 straight_at))) ⟨_, _, rfl, rfl, rfl⟩ rfl rfl ?_
                refine Run.one (ok_move rfl rfl) ⟨_, _, rfl, rfl, rfl⟩ rfl rfl ?_
                refine Run.oneB (ok_not rfl rfl) ⟨_, _, rfl, rfl, rfl⟩ rfl rfl (fun h10_34 => ?_) (fun h10_34 => ?_)
                · refine Run.one (ok_move rfl rfl) ⟨_, _, rfl, rfl, rfl⟩ rfl rfl ?_
                  refine Run.one (ok_load_agg rfl rfl rfl rfl) ⟨_, _, rfl, rfl, rfl⟩ rfl rfl ?_
                  refine Run.one (ok_call rfl rfl (rqOf_spec (n := 1) (q := 1) (by decide) (by decide))) ⟨_, _, rfl, rfl, rfl⟩ rfl rfl ?_
                  refine Run.one (ok_call rfl rfl (rqcmp_spec (by omega))) ⟨_, _, rfl, rfl, rfl⟩ rfl rfl ?_
                  refine Run.one (ok_cmp rfl rfl rfl rfl) ⟨_, _, rfl, rfl, rfl⟩ rfl rfl ?_
                  refine Run.one ((ok_pick rfl rfl rfl).sub (bool_eq (c := decide (¬ (x1 = x2 ∧ y1 = y2) ∧ 1 < t)) (by first | exact decide_eq_decide.2 ⟨fun h => ⟨by rw [Bool.not_eq_true'] at h10_34; exact of_decide_eq_false h10_34, tri_gt_iff.1 h⟩, fun h => tri_gt_iff.2 h.2⟩ | exact (decide_eq_false fun h => h.1 (by simpa using h10_34)).symm))) ⟨_, _, rfl, rfl, rfl⟩ rfl rfl ?_
                  refine Run.one ((ok_eql_bool rfl rfl rfl Tryz.isBool4).sub (bool_eq (c := true) (by simp))) ⟨_, _, rfl, rfl, rfl⟩ rfl rfl ?_
                  refine Run.one (ok_pick rfl rfl rfl) rfl rfl rfl ?_
                  refine Run.one (ok_move rfl rfl) rfl rfl rfl ?_
                  refine Run.one (ok_call rfl rfl wakes9_spec) ⟨_, _, rfl, rfl, rfl⟩ rfl rfl ?_
                  refine Run.one (ok_pick rfl rfl rfl) rfl rfl rfl ?_
                  refine Run.one (ok_assign rfl rfl) rfl rfl rfl ?_
                  refine Run.nil ?_
                  refine Run.nil ?_
                  refine T_ret ?_
                  exact ⟨_, [], .one (.tmp rfl), List.nil_sublist _, rfl, rfl⟩
                · refine Run.one (ok_move rfl rfl) ⟨_, _, rfl, rfl, rfl⟩ rfl rfl ?_
                  refine Run.no ⟨_, _, rfl, rfl, rfl⟩ rfl rfl ?_
                  refine Run.no ⟨_, _, rfl, rfl, rfl⟩ rfl rfl ?_
                  refine Run.no ⟨_, _, rfl, rfl, rfl⟩ rfl rfl ?_
                  refine Run.no ⟨_, _, rfl, rfl, rfl⟩ rfl rfl ?_
                  refine Run.one ((ok_pick rfl rfl rfl).sub (bool_eq (c := decide (¬ (x1 = x2 ∧ y1 = y2) ∧ 1 < t)) (by first | exact decide_eq_decide.2 ⟨fun h => ⟨by rw [Bool.not_eq_true'] at h10_34; exact of_decide_eq_false h10_34, tri_gt_iff.1 h⟩, fun h => tri_gt_iff.2 h.2⟩ | exact (decide_eq_false fun h => h.1 (by simpa using h10_34)).symm))) ⟨_, _, rfl, rfl, rfl⟩ rfl rfl ?_
                  refine Run.one ((ok_eql_bool rfl rfl rfl Tryz.isBool4).sub (bool_eq (c := true) (by simp))) ⟨_, _, rfl, rfl, rfl⟩ rfl rfl ?_
                  refine Run.one (ok_pick rfl rfl rfl) rfl rfl rfl ?_
                  refine Run.one (ok_move rfl rfl) rfl rfl rfl ?_
                  refine Run.one (ok_call rfl rfl wakes9_spec) ⟨_, _, rfl, rfl, rfl⟩ rfl rfl ?_
                  refine Run.one (ok_pick rfl rfl rfl) rfl rfl rfl ?_
                  refine Run.one (ok_assign rfl rfl) rfl rfl rfl ?_
                  refine Run.nil ?_
                  refine Run.nil ?_
                  refine T_ret ?_
                  exact ⟨_, [], .one (.tmp rfl), List.nil_sublist _, rfl, rfl⟩
            · have k10_4 := of_decide_eq_false h10_4
              refine Run.one (ok_move rfl rfl) rfl rfl rfl ?_
              refine Run.one (ok_move rfl rfl) ⟨_, _, rfl, rfl, rfl⟩ rfl rfl ?_
              refine Run.one ((ok_pick rfl rfl rfl).sub (bool_eq (c := decide ((0 ≤ t ∧ t ≤ 1) ∨ (x1 = x2 ∧ y1 = y2))) (by first | exact (decide_eq_true (.inl k10_4)).symm | exact decide_eq_decide.2 ⟨.inr, fun h => h.resolve_left k10_4⟩ | exact decide_eq_decide.2 ⟨.inr, fun h => h.resolve_left fun h => k7_2 (tri_ge_iff.2 h.1)⟩))) rfl rfl rfl ?_
              refine Run.one ((ok_eql_bool rfl rfl rfl Tryz.isBool4).sub (bool_eq (c := true) (by simp))) rfl rfl rfl ?_
              refine Run.one (ok_move rfl rfl) rfl rfl rfl ?_
              refine Run.one (ok_load_agg rfl rfl rfl rfl) ⟨_, _, rfl, rfl, rfl⟩ rfl rfl ?_
              refine Run.one (ok_load_agg rfl rfl rfl rfl) ⟨_, _, rfl, rfl, rfl⟩ rfl rfl ?_
              refine Run.one (ok_load_own_agg 0 rfl rfl rfl rfl rfl) ⟨_, _, rfl, rfl, rfl⟩ rfl rfl ?_
              refine Run.one ((ok_call rfl rfl (sWithin_spec (by unfold cap; omega))).sub (bool_eq (c := decide ((0 < t ∧ t < 1) ∧ ¬ (x1 = x2 ∧ y1 = y2))) (decide_eq_decide.2 within_at))) ⟨_, _, rfl, rfl, rfl⟩ rfl rfl ?_
              refine Run.oneB (ok_move rfl rfl) ⟨_, _, rfl, rfl, rfl⟩ rfl rfl (fun h10_14 => ?_) (fun h10_14 => ?_)
              · have k10_14 := of_decide_eq_true h10_14
                refine Run.one (ok_move rfl rfl) ⟨_, _, rfl, rfl, rfl⟩ rfl rfl ?_
                refine Run.one (ok_move rfl rfl) ⟨_, _, rfl, rfl, rfl⟩ rfl rfl ?_
                refine Run.one (ok_not rfl rfl) ⟨_, _, rfl, rfl, rfl⟩ rfl rfl ?_
                refine Run.one ((ok_pick rfl rfl rfl).sub (bool_eq (c := decide ((0 < t ∧ t < 1) ∧ ¬ (x1 = x2 ∧ y1 = y2))) (by first | exact (decide_not.symm.trans (decide_eq_decide.2 ⟨fun h => ⟨k10_14, h⟩, fun h => h.2⟩)) | exact (decide_eq_false fun h => k10_14 h.1).symm | exact (decide_eq_false fun h => k9_2 (tri_gt_iff.2 h.1.1)).symm))) ⟨_, _, rfl, rfl, rfl⟩ rfl rfl ?_
                refine Run.one ((ok_eql_bool rfl rfl rfl Tryz.isBool4).sub (bool_eq (c := true) (by simp))) ⟨_, _, rfl, rfl, rfl⟩ rfl rfl ?_
                refine Run.one (ok_pick rfl rfl rfl) rfl rfl rfl ?_
                refine Run.one (ok_move rfl rfl) rfl rfl rfl ?_
                refine Run.one (ok_load_agg rfl rfl rfl rfl) ⟨_, _, rfl, rfl, rfl⟩ rfl rfl ?_
                refine Run.one (ok_load_agg rfl rfl rfl rfl) ⟨_, _, rfl, rfl, rfl⟩ rfl rfl ?_
                refine Run.one (ok_load_own_agg 0 rfl rfl rfl rfl rfl) ⟨_, _, rfl, rfl, rfl⟩ rfl rfl ?_
                refine Run.one ((ok_call rfl rfl (sSide_spec (by unfold cap; omega))).sub (int_eq (n := 0) (by rw [crs_at]; rfl))) ⟨_, _, rfl, rfl, rfl⟩ rfl rfl ?_
                refine Run.one (ok_cmp rfl rfl rfl rfl) ⟨_, _, rfl, rfl, rfl⟩ rfl rfl ?_
                refine Run.one (ok_pick rfl rfl rfl) rfl rfl rfl ?_
                refine Run.one (ok_move rfl rfl) rfl rfl rfl ?_
                refine Run.one (ok_load_agg rfl rfl rfl rfl) ⟨_, _, rfl, rfl, rfl⟩ rfl rfl ?_
                refine Run.one (ok_load_agg rfl rfl rfl rfl) ⟨_, _, rfl, rfl, rfl⟩ rfl rfl ?_
                refine Run.one (ok_load_own_agg 0 rfl rfl rfl rfl rfl) ⟨_, _, rfl, rfl, rfl⟩ rfl rfl ?_
                refine Run.one ((ok_call rfl rfl (sStraight_spec (by unfold cap; omega))).sub (bool_eq (c := decide (¬ (x1 = x2 ∧ y1 = y2) ∧ 1 < t)) (decide_eq_decide.2 straight_at))) ⟨_, _, rfl, rfl, rfl⟩ rfl rfl ?_
                refine Run.one (ok_move rfl rfl) ⟨_, _, rfl, rfl, rfl⟩ rfl rfl ?_
                refine Run.oneB (ok_not rfl rfl) ⟨_, _, rfl, rfl, rfl⟩ rfl rfl (fun h10_34 => ?_) (fun h10_34 => ?_)
                · refine Run.one (ok_move rfl rfl) ⟨_, _, rfl, rfl, rfl⟩ rfl rfl ?_
                  refine Run.one (ok_load_agg rfl rfl rfl rfl) ⟨_, _, rfl, rfl, rfl⟩ rfl rfl ?_
                  refine Run.one (ok_call rfl rfl (rqOf_spec (n := 1) (q := 1) (by decide) (by decide))) ⟨_, _, rfl, rfl, rfl⟩ rfl rfl ?_
                  refine Run.one (ok_call rfl rfl (rqcmp_spec (by omega))) ⟨_, _, rfl, rfl, rfl⟩ rfl rfl ?_
                  refine Run.one (ok_cmp rfl rfl rfl rfl) ⟨_, _, rfl, rfl, rfl⟩ rfl rfl ?_
                  refine Run.one ((ok_pick rfl rfl rfl).sub (bool_eq (c := decide (¬ (x1 = x2 ∧ y1 = y2) ∧ 1 < t)) (by first | exact decide_eq_decide.2 ⟨fun h => ⟨by rw [Bool.not_eq_true'] at h10_34; exact of_decide_eq_false h10_34, tri_gt_iff.1 h⟩, fun h => tri_gt_iff.2 h.2⟩ | exact (decide_eq_false fun h => h.1 (by simpa using h10_34)).symm))) ⟨_, _, rfl, rfl, rfl⟩ rfl rfl ?_
                  refine Run.one ((ok_eql_bool rfl rfl rfl Tryz.isBool4).sub (bool_eq (c := true) (by simp))) ⟨_, _, rfl, rfl, rfl⟩ rfl rfl ?_
                  refine Run.one (ok_pick rfl rfl rfl) rfl rfl rfl ?_
                  refine Run.one (ok_move rfl rfl) rfl rfl rfl ?_
                  refine Run.one (ok_call rfl rfl wakes9_spec) ⟨_, _, rfl, rfl, rfl⟩ rfl rfl ?_
                  refine Run.one (ok_pick rfl rfl rfl) rfl rfl rfl ?_
                  refine Run.one (ok_assign rfl rfl) rfl rfl rfl ?_
                  refine Run.nil ?_
                  refine Run.nil ?_
                  refine T_ret ?_
                  exact ⟨_, [], .one (.tmp rfl), List.nil_sublist _, rfl, rfl⟩
                · refine Run.one (ok_move rfl rfl) ⟨_, _, rfl, rfl, rfl⟩ rfl rfl ?_
                  refine Run.no ⟨_, _, rfl, rfl, rfl⟩ rfl rfl ?_
                  refine Run.no ⟨_, _, rfl, rfl, rfl⟩ rfl rfl ?_
                  refine Run.no ⟨_, _, rfl, rfl, rfl⟩ rfl rfl ?_
                  refine Run.no ⟨_, _, rfl, rfl, rfl⟩ rfl rfl ?_
                  refine Run.one ((ok_pick rfl rfl rfl).sub (bool_eq (c := decide (¬ (x1 = x2 ∧ y1 = y2) ∧ 1 < t)) (by first | exact decide_eq_decide.2 ⟨fun h => ⟨by rw [Bool.not_eq_true'] at h10_34; exact of_decide_eq_false h10_34, tri_gt_iff.1 h⟩, fun h => tri_gt_iff.2 h.2⟩ | exact (decide_eq_false fun h => h.1 (by simpa using h10_34)).symm))) ⟨_, _, rfl, rfl, rfl⟩ rfl rfl ?_
                  refine Run.one ((ok_eql_bool rfl rfl rfl Tryz.isBool4).sub (bool_eq (c := true) (by simp))) ⟨_, _, rfl, rfl, rfl⟩ rfl rfl ?_
                  refine Run.one (ok_pick rfl rfl rfl) rfl rfl rfl ?_
                  refine Run.one (ok_move rfl rfl) rfl rfl rfl ?_
                  refine Run.one (ok_call rfl rfl wakes9_spec) ⟨_, _, rfl, rfl, rfl⟩ rfl rfl ?_
                  refine Run.one (ok_pick rfl rfl rfl) rfl rfl rfl ?_
                  refine Run.one (ok_assign rfl rfl) rfl rfl rfl ?_
                  refine Run.nil ?_
                  refine Run.nil ?_
                  refine T_ret ?_
                  exact ⟨_, [], .one (.tmp rfl), List.nil_sublist _, rfl, rfl⟩
              · have k10_14 := of_decide_eq_false h10_14
                refine Run.one (ok_move rfl rfl) ⟨_, _, rfl, rfl, rfl⟩ rfl rfl ?_
                refine Run.no ⟨_, _, rfl, rfl, rfl⟩ rfl rfl ?_
                refine Run.no ⟨_, _, rfl, rfl, rfl⟩ rfl rfl ?_
                refine Run.one ((ok_pick rfl rfl rfl).sub (bool_eq (c := decide ((0 < t ∧ t < 1) ∧ ¬ (x1 = x2 ∧ y1 = y2))) (by first | exact (decide_not.symm.trans (decide_eq_decide.2 ⟨fun h => ⟨k10_14, h⟩, fun h => h.2⟩)) | exact (decide_eq_false fun h => k10_14 h.1).symm | exact (decide_eq_false fun h => k9_2 (tri_gt_iff.2 h.1.1)).symm))) ⟨_, _, rfl, rfl, rfl⟩ rfl rfl ?_
                refine Run.one ((ok_eql_bool rfl rfl rfl Tryz.isBool4).sub (bool_eq (c := true) (by simp))) ⟨_, _, rfl, rfl, rfl⟩ rfl rfl ?_
                refine Run.one (ok_pick rfl rfl rfl) rfl rfl rfl ?_
                refine Run.one (ok_move rfl rfl) rfl rfl rfl ?_
                refine Run.one (ok_load_agg rfl rfl rfl rfl) ⟨_, _, rfl, rfl, rfl⟩ rfl rfl ?_
                refine Run.one (ok_load_agg rfl rfl rfl rfl) ⟨_, _, rfl, rfl, rfl⟩ rfl rfl ?_
                refine Run.one (ok_load_own_agg 0 rfl rfl rfl rfl rfl) ⟨_, _, rfl, rfl, rfl⟩ rfl rfl ?_
                refine Run.one ((ok_call rfl rfl (sSide_spec (by unfold cap; omega))).sub (int_eq (n := 0) (by rw [crs_at]; rfl))) ⟨_, _, rfl, rfl, rfl⟩ rfl rfl ?_
                refine Run.one (ok_cmp rfl rfl rfl rfl) ⟨_, _, rfl, rfl, rfl⟩ rfl rfl ?_
                refine Run.one (ok_pick rfl rfl rfl) rfl rfl rfl ?_
                refine Run.one (ok_move rfl rfl) rfl rfl rfl ?_
                refine Run.one (ok_load_agg rfl rfl rfl rfl) ⟨_, _, rfl, rfl, rfl⟩ rfl rfl ?_
                refine Run.one (ok_load_agg rfl rfl rfl rfl) ⟨_, _, rfl, rfl, rfl⟩ rfl rfl ?_
                refine Run.one (ok_load_own_agg 0 rfl rfl rfl rfl rfl) ⟨_, _, rfl, rfl, rfl⟩ rfl rfl ?_
                refine Run.one ((ok_call rfl rfl (sStraight_spec (by unfold cap; omega))).sub (bool_eq (c := decide (¬ (x1 = x2 ∧ y1 = y2) ∧ 1 < t)) (decide_eq_decide.2 straight_at))) ⟨_, _, rfl, rfl, rfl⟩ rfl rfl ?_
                refine Run.one (ok_move rfl rfl) ⟨_, _, rfl, rfl, rfl⟩ rfl rfl ?_
                refine Run.oneB (ok_not rfl rfl) ⟨_, _, rfl, rfl, rfl⟩ rfl rfl (fun h10_34 => ?_) (fun h10_34 => ?_)
                · refine Run.one (ok_move rfl rfl) ⟨_, _, rfl, rfl, rfl⟩ rfl rfl ?_
                  refine Run.one (ok_load_agg rfl rfl rfl rfl) ⟨_, _, rfl, rfl, rfl⟩ rfl rfl ?_
                  refine Run.one (ok_call rfl rfl (rqOf_spec (n := 1) (q := 1) (by decide) (by decide))) ⟨_, _, rfl, rfl, rfl⟩ rfl rfl ?_
                  refine Run.one (ok_call rfl rfl (rqcmp_spec (by omega))) ⟨_, _, rfl, rfl, rfl⟩ rfl rfl ?_
                  refine Run.one (ok_cmp rfl rfl rfl rfl) ⟨_, _, rfl, rfl, rfl⟩ rfl rfl ?_
                  refine Run.one ((ok_pick rfl rfl rfl).sub (bool_eq (c := decide (¬ (x1 = x2 ∧ y1 = y2) ∧ 1 < t)) (by first | exact decide_eq_decide.2 ⟨fun h => ⟨by rw [Bool.not_eq_true'] at h10_34; exact of_decide_eq_false h10_34, tri_gt_iff.1 h⟩, fun h => tri_gt_iff.2 h.2⟩ | exact (decide_eq_false fun h => h.1 (by simpa using h10_34)).symm))) ⟨_, _, rfl, rfl, rfl⟩ rfl rfl ?_
                  refine Run.one ((ok_eql_bool rfl rfl rfl Tryz.isBool4).sub (bool_eq (c := true) (by simp))) ⟨_, _, rfl, rfl, rfl⟩ rfl rfl ?_
                  refine Run.one (ok_pick rfl rfl rfl) rfl rfl rfl ?_
                  refine Run.one (ok_move rfl rfl) rfl rfl rfl ?_
                  refine Run.one (ok_call rfl rfl wakes9_spec) ⟨_, _, rfl, rfl, rfl⟩ rfl rfl ?_
                  refine Run.one (ok_pick rfl rfl rfl) rfl rfl rfl ?_
                  refine Run.one (ok_assign rfl rfl) rfl rfl rfl ?_
                  refine Run.nil ?_
                  refine Run.nil ?_
                  refine T_ret ?_
                  exact ⟨_, [], .one (.tmp rfl), List.nil_sublist _, rfl, rfl⟩
                · refine Run.one (ok_move rfl rfl) ⟨_, _, rfl, rfl, rfl⟩ rfl rfl ?_
                  refine Run.no ⟨_, _, rfl, rfl, rfl⟩ rfl rfl ?_
                  refine Run.no ⟨_, _, rfl, rfl, rfl⟩ rfl rfl ?_
                  refine Run.no ⟨_, _, rfl, rfl, rfl⟩ rfl rfl ?_
                  refine Run.no ⟨_, _, rfl, rfl, rfl⟩ rfl rfl ?_
                  refine Run.one ((ok_pick rfl rfl rfl).sub (bool_eq (c := decide (¬ (x1 = x2 ∧ y1 = y2) ∧ 1 < t)) (by first | exact decide_eq_decide.2 ⟨fun h => ⟨by rw [Bool.not_eq_true'] at h10_34; exact of_decide_eq_false h10_34, tri_gt_iff.1 h⟩, fun h => tri_gt_iff.2 h.2⟩ | exact (decide_eq_false fun h => h.1 (by simpa using h10_34)).symm))) ⟨_, _, rfl, rfl, rfl⟩ rfl rfl ?_
                  refine Run.one ((ok_eql_bool rfl rfl rfl Tryz.isBool4).sub (bool_eq (c := true) (by simp))) ⟨_, _, rfl, rfl, rfl⟩ rfl rfl ?_
                  refine Run.one (ok_pick rfl rfl rfl) rfl rfl rfl ?_
                  refine Run.one (ok_move rfl rfl) rfl rfl rfl ?_
                  refine Run.one (ok_call rfl rfl wakes9_spec) ⟨_, _, rfl, rfl, rfl⟩ rfl rfl ?_
                  refine Run.one (ok_pick rfl rfl rfl) rfl rfl rfl ?_
                  refine Run.one (ok_assign rfl rfl) rfl rfl rfl ?_
                  refine Run.nil ?_
                  refine Run.nil ?_
                  refine T_ret ?_
                  exact ⟨_, [], .one (.tmp rfl), List.nil_sublist _, rfl, rfl⟩
          · have k9_2 := of_decide_eq_false h9_2
            refine Run.one (ok_move rfl rfl) rfl rfl rfl ?_
            refine Run.no ⟨_, _, rfl, rfl, rfl⟩ rfl rfl ?_
            refine Run.no ⟨_, _, rfl, rfl, rfl⟩ rfl rfl ?_
            refine Run.no ⟨_, _, rfl, rfl, rfl⟩ rfl rfl ?_
            refine Run.no ⟨_, _, rfl, rfl, rfl⟩ rfl rfl ?_
            refine Run.one (ok_pick rfl rfl rfl) rfl rfl rfl ?_
            refine Run.one (ok_assign rfl rfl) rfl rfl rfl ?_
            refine Run.nil ?_
            refine Run.nil ?_
            refine T_drawS 47 (by kernel_rfl) ?_
            refine Run.one (ok_load_agg rfl rfl rfl rfl) rfl rfl rfl ?_
            refine Run.one (ok_load_agg rfl rfl rfl rfl) rfl rfl rfl ?_
            refine Run.one (ok_load_own_agg 0 rfl rfl rfl rfl rfl) rfl rfl rfl ?_
            refine Run.one ((ok_call rfl rfl (sOn_spec (by unfold cap; omega))).sub (bool_eq (c := decide ((0 ≤ t ∧ t ≤ 1) ∨ (x1 = x2 ∧ y1 = y2))) (decide_eq_decide.2 onP_at))) rfl rfl rfl ?_
            refine Run.oneB (ok_move rfl rfl) rfl rfl rfl (fun h10_4 => ?_) (fun h10_4 => ?_)
            · have k10_4 := of_decide_eq_true h10_4
              refine Run.one (ok_move rfl rfl) rfl rfl rfl ?_
              refine Run.no ⟨_, _, rfl, rfl, rfl⟩ rfl rfl ?_
              refine Run.one ((ok_pick rfl rfl rfl).sub (bool_eq (c := decide ((0 ≤ t ∧ t ≤ 1) ∨ (x1 = x2 ∧ y1 = y2))) (by first | exact (decide_eq_true (.inl k10_4)).symm | exact decide_eq_decide.2 ⟨.inr, fun h => h.resolve_left k10_4⟩ | exact decide_eq_decide.2 ⟨.inr, fun h => h.resolve_left fun h => k7_2 (tri_ge_iff.2 h.1)⟩))) rfl rfl rfl ?_
              refine Run.one ((ok_eql_bool rfl rfl rfl Tryz.isBool4).sub (bool_eq (c := true) (by simp))) rfl rfl rfl ?_
              refine Run.one (ok_move rfl rfl) rfl rfl rfl ?_
              refine Run.one (ok_load_agg rfl rfl rfl rfl) ⟨_, _, rfl, rfl, rfl⟩ rfl rfl ?_
              refine Run.one (ok_load_agg rfl rfl rfl rfl) ⟨_, _, rfl, rfl, rfl⟩ rfl rfl ?_
              refine Run.one (ok_load_own_agg 0 rfl rfl rfl rfl rfl) ⟨_, _, rfl, rfl, rfl⟩ rfl rfl ?_
              refine Run.one ((ok_call rfl rfl (sWithin_spec (by unfold cap; omega))).sub (bool_eq (c := decide ((0 < t ∧ t < 1) ∧ ¬ (x1 = x2 ∧ y1 = y2))) (decide_eq_decide.2 within_at))) ⟨_, _, rfl, rfl, rfl⟩ rfl rfl ?_
              refine Run.one (ok_move rfl rfl) ⟨_, _, rfl, rfl, rfl⟩ rfl rfl ?_
              refine Run.one (ok_move rfl rfl) ⟨_, _, rfl, rfl, rfl⟩ rfl rfl ?_
              refine Run.no ⟨_, _, rfl, rfl, rfl⟩ rfl rfl ?_
              refine Run.no ⟨_, _, rfl, rfl, rfl⟩ rfl rfl ?_
              refine Run.one ((ok_pick rfl rfl rfl).sub (bool_eq (c := decide ((0 < t ∧ t < 1) ∧ ¬ (x1 = x2 ∧ y1 = y2))) (by first | exact (decide_not.symm.trans (decide_eq_decide.2 ⟨fun h => ⟨k10_14, h⟩, fun h => h.2⟩)) | exact (decide_eq_false fun h => k10_14 h.1).symm | exact (decide_eq_false fun h => k9_2 (tri_gt_iff.2 h.1.1)).symm))) ⟨_, _, rfl, rfl, rfl⟩ rfl rfl ?_
              refine Run.one ((ok_eql_bool rfl rfl rfl Tryz.isBool4).sub (bool_eq (c := true) (by simp))) ⟨_, _, rfl, rfl, rfl⟩ rfl rfl ?_
              refine Run.one (ok_pick rfl rfl rfl) rfl rfl rfl ?_
              refine Run.one (ok_move rfl rfl) rfl rfl rfl ?_
              refine Run.one (ok_load_agg rfl rfl rfl rfl) ⟨_, _, rfl, rfl, rfl⟩ rfl rfl ?_
              refine Run.one (ok_load_agg rfl rfl rfl rfl) ⟨_, _, rfl, rfl, rfl⟩ rfl rfl ?_
              refine Run.one (ok_load_own_agg 0 rfl rfl rfl rfl rfl) ⟨_, _, rfl, rfl, rfl⟩ rfl rfl ?_
              refine Run.one ((ok_call rfl rfl (sSide_spec (by unfold cap; omega))).sub (int_eq (n := 0) (by rw [crs_at]; rfl))) ⟨_, _, rfl, rfl, rfl⟩ rfl rfl ?_
              refine Run.one (ok_cmp rfl rfl rfl rfl) ⟨_, _, rfl, rfl, rfl⟩ rfl rfl ?_
              refine Run.one (ok_pick rfl rfl rfl) rfl rfl rfl ?_
              refine Run.one (ok_move rfl rfl) rfl rfl rfl ?_
              refine Run.one (ok_load_agg rfl rfl rfl rfl) ⟨_, _, rfl, rfl, rfl⟩ rfl rfl ?_
              refine Run.one (ok_load_agg rfl rfl rfl rfl) ⟨_, _, rfl, rfl, rfl⟩ rfl rfl ?_
              refine Run.one (ok_load_own_agg 0 rfl rfl rfl rfl rfl) ⟨_, _, rfl, rfl, rfl⟩ rfl rfl ?_
              refine Run.one ((ok_call rfl rfl (sStraight_spec (by unfold cap; omega))).sub (bool_eq (c := decide (¬ (x1 = x2 ∧ y1 = y2) ∧ 1 < t)) (decide_eq_decide.2 straight_at))) ⟨_, _, rfl, rfl, rfl⟩ rfl rfl ?_
              refine Run.one (ok_move rfl rfl) ⟨_, _, rfl, rfl, rfl⟩ rfl rfl ?_
              refine Run.oneB (ok_not rfl rfl) ⟨_, _, rfl, rfl, rfl⟩ rfl rfl (fun h10_34 => ?_) (fun h10_34 => ?_)
              · refine Run.one (ok_move rfl rfl) ⟨_, _, rfl, rfl, rfl⟩ rfl rfl ?_
                refine Run.one (ok_load_agg rfl rfl rfl rfl) ⟨_, _, rfl, rfl, rfl⟩ rfl rfl ?_
                refine Run.one (ok_call rfl rfl (rqOf_spec (n := 1) (q := 1) (by decide) (by decide))) ⟨_, _, rfl, rfl, rfl⟩ rfl rfl ?_
                refine Run.one (ok_call rfl rfl (rqcmp_spec (by omega))) ⟨_, _, rfl, rfl, rfl⟩ rfl rfl ?_
                refine Run.one (ok_cmp rfl rfl rfl rfl) ⟨_, _, rfl, rfl, rfl⟩ rfl rfl ?_
                refine Run.one ((ok_pick rfl rfl rfl).sub (bool_eq (c := decide (¬ (x1 = x2 ∧ y1 = y2) ∧ 1 < t)) (by first | exact decide_eq_decide.2 ⟨fun h => ⟨by rw [Bool.not_eq_true'] at h10_34; exact of_decide_eq_false h10_34, tri_gt_iff.1 h⟩, fun h => tri_gt_iff.2 h.2⟩ | exact (decide_eq_false fun h => h.1 (by simpa using h10_34)).symm))) ⟨_, _, rfl, rfl, rfl⟩ rfl rfl ?_
                refine Run.one ((ok_eql_bool rfl rfl rfl Tryz.isBool4).sub (bool_eq (c := true) (by simp))) ⟨_, _, rfl, rfl, rfl⟩ rfl rfl ?_
                refine Run.one (ok_pick rfl rfl rfl) rfl rfl rfl ?_
                refine Run.one (ok_move rfl rfl) rfl rfl rfl ?_
                refine Run.one (ok_call rfl rfl wakes9_spec) ⟨_, _, rfl, rfl, rfl⟩ rfl rfl ?_
                refine Run.one (ok_pick rfl rfl rfl) rfl rfl rfl ?_
                refine Run.one (ok_assign rfl rfl) rfl rfl rfl ?_
                refine Run.nil ?_
                refine Run.nil ?_
                refine T_ret ?_
                exact ⟨_, [], .one (.tmp rfl), List.nil_sublist _, rfl, rfl⟩
              · refine Run.one (ok_move rfl rfl) ⟨_, _, rfl, rfl, rfl⟩ rfl rfl ?_
                refine Run.no ⟨_, _, rfl, rfl, rfl⟩ rfl rfl ?_
                refine Run.no ⟨_, _, rfl, rfl, rfl⟩ rfl rfl ?_
                refine Run.no ⟨_, _, rfl, rfl, rfl⟩ rfl rfl ?_
                refine Run.no ⟨_, _, rfl, rfl, rfl⟩ rfl rfl ?_
                refine Run.one ((ok_pick rfl rfl rfl).sub (bool_eq (c := decide (¬ (x1 = x2 ∧ y1 = y2) ∧ 1 < t)) (by first | exact decide_eq_decide.2 ⟨fun h => ⟨by rw [Bool.not_eq_true'] at h10_34; exact of_decide_eq_false h10_34, tri_gt_iff.1 h⟩, fun h => tri_gt_iff.2 h.2⟩ | exact (decide_eq_false fun h => h.1 (by simpa using h10_34)).symm))) ⟨_, _, rfl, rfl, rfl⟩ rfl rfl ?_
                refine Run.one ((ok_eql_bool rfl rfl rfl Tryz.isBool4).sub (bool_eq (c := true) (by simp))) ⟨_, _, rfl, rfl, rfl⟩ rfl rfl ?_
                refine Run.one (ok_pick rfl rfl rfl) rfl rfl rfl ?_
                refine Run.one (ok_move rfl rfl) rfl rfl rfl ?_
                refine Run.one (ok_call rfl rfl wakes9_spec) ⟨_, _, rfl, rfl, rfl⟩ rfl rfl ?_
                refine Run.one (ok_pick rfl rfl rfl) rfl rfl rfl ?_
                refine Run.one (ok_assign rfl rfl) rfl rfl rfl ?_
                refine Run.nil ?_
                refine Run.nil ?_
                refine T_ret ?_
                exact ⟨_, [], .one (.tmp rfl), List.nil_sublist _, rfl, rfl⟩
            · have k10_4 := of_decide_eq_false h10_4
              refine Run.one (ok_move rfl rfl) rfl rfl rfl ?_
              refine Run.one (ok_move rfl rfl) ⟨_, _, rfl, rfl, rfl⟩ rfl rfl ?_
              refine Run.one ((ok_pick rfl rfl rfl).sub (bool_eq (c := decide ((0 ≤ t ∧ t ≤ 1) ∨ (x1 = x2 ∧ y1 = y2))) (by first | exact (decide_eq_true (.inl k10_4)).symm | exact decide_eq_decide.2 ⟨.inr, fun h => h.resolve_left k10_4⟩ | exact decide_eq_decide.2 ⟨.inr, fun h => h.resolve_left fun h => k7_2 (tri_ge_iff.2 h.1)⟩))) rfl rfl rfl ?_
              refine Run.one ((ok_eql_bool rfl rfl rfl Tryz.isBool4).sub (bool_eq (c := true) (by simp))) rfl rfl rfl ?_
              refine Run.one (ok_move rfl rfl) rfl rfl rfl ?_
              refine Run.one (ok_load_agg rfl rfl rfl rfl) ⟨_, _, rfl, rfl, rfl⟩ rfl rfl ?_
              refine Run.one (ok_load_agg rfl rfl rfl rfl) ⟨_, _, rfl, rfl, rfl⟩ rfl rfl ?_
              refine Run.one (ok_load_own_agg 0 rfl rfl rfl rfl rfl) ⟨_, _, rfl, rfl, rfl⟩ rfl rfl ?_
              refine Run.one ((ok_call rfl rfl (sWithin_spec (by unfold cap; omega))).sub (bool_eq (c := decide ((0 < t ∧ t < 1) ∧ ¬ (x1 = x2 ∧ y1 = y2))) (decide_eq_decide.2 within_at))) ⟨_, _, rfl, rfl, rfl⟩ rfl rfl ?_
              refine Run.one (ok_move rfl rfl) ⟨_, _, rfl, rfl, rfl⟩ rfl rfl ?_
              refine Run.one (ok_move rfl rfl) ⟨_, _, rfl, rfl, rfl⟩ rfl rfl ?_
              refine Run.no ⟨_, _, rfl, rfl, rfl⟩ rfl rfl ?_
              refine Run.no ⟨_, _, rfl, rfl, rfl⟩ rfl rfl ?_
              refine Run.one ((ok_pick rfl rfl rfl).sub (bool_eq (c := decide ((0 < t ∧ t < 1) ∧ ¬ (x1 = x2 ∧ y1 = y2))) (by first | exact (decide_not.symm.trans (decide_eq_decide.2 ⟨fun h => ⟨k10_14, h⟩, fun h => h.2⟩)) | exact (decide_eq_false fun h => k10_14 h.1).symm | exact (decide_eq_false fun h => k9_2 (tri_gt_iff.2 h.1.1)).symm))) ⟨_, _, rfl, rfl, rfl⟩ rfl rfl ?_
              refine Run.one ((ok_eql_bool rfl rfl rfl Tryz.isBool4).sub (bool_eq (c := true) (by simp))) ⟨_, _, rfl, rfl, rfl⟩ rfl rfl ?_
              refine Run.one (ok_pick rfl rfl rfl) rfl rfl rfl ?_
              refine Run.one (ok_move rfl rfl) rfl rfl rfl ?_
              refine Run.one (ok_load_agg rfl rfl rfl rfl) ⟨_, _, rfl, rfl, rfl⟩ rfl rfl ?_
              refine Run.one (ok_load_agg rfl rfl rfl rfl) ⟨_, _, rfl, rfl, rfl⟩ rfl rfl ?_
              refine Run.one (ok_load_own_agg 0 rfl rfl rfl rfl rfl) ⟨_, _, rfl, rfl, rfl⟩ rfl rfl ?_
              refine Run.one ((ok_call rfl rfl (sSide_spec (by unfold cap; omega))).sub (int_eq (n := 0) (by rw [crs_at]; rfl))) ⟨_, _, rfl, rfl, rfl⟩ rfl rfl ?_
              refine Run.one (ok_cmp rfl rfl rfl rfl) ⟨_, _, rfl, rfl, rfl⟩ rfl rfl ?_
              refine Run.one (ok_pick rfl rfl rfl) rfl rfl rfl ?_
              refine Run.one (ok_move rfl rfl) rfl rfl rfl ?_
              refine Run.one (ok_load_agg rfl rfl rfl rfl) ⟨_, _, rfl, rfl, rfl⟩ rfl rfl ?_
              refine Run.one (ok_load_agg rfl rfl rfl rfl) ⟨_, _, rfl, rfl, rfl⟩ rfl rfl ?_
              refine Run.one (ok_load_own_agg 0 rfl rfl rfl rfl rfl) ⟨_, _, rfl, rfl, rfl⟩ rfl rfl ?_
              refine Run.one ((ok_call rfl rfl (sStraight_spec (by unfold cap; omega))).sub (bool_eq (c := decide (¬ (x1 = x2 ∧ y1 = y2) ∧ 1 < t)) (decide_eq_decide.2 straight_at))) ⟨_, _, rfl, rfl, rfl⟩ rfl rfl ?_
              refine Run.one (ok_move rfl rfl) ⟨_, _, rfl, rfl, rfl⟩ rfl rfl ?_
              refine Run.oneB (ok_not rfl rfl) ⟨_, _, rfl, rfl, rfl⟩ rfl rfl (fun h10_34 => ?_) (fun h10_34 => ?_)
              · refine Run.one (ok_move rfl rfl) ⟨_, _, rfl, rfl, rfl⟩ rfl rfl ?_
                refine Run.one (ok_load_agg rfl rfl rfl rfl) ⟨_, _, rfl, rfl, rfl⟩ rfl rfl ?_
                refine Run.one (ok_call rfl rfl (rqOf_spec (n := 1) (q := 1) (by decide) (by decide))) ⟨_, _, rfl, rfl, rfl⟩ rfl rfl ?_
                refine Run.one (ok_call rfl rfl (rqcmp_spec (by omega))) ⟨_, _, rfl, rfl, rfl⟩ rfl rfl ?_
                refine Run.one (ok_cmp rfl rfl rfl rfl) ⟨_, _, rfl, rfl, rfl⟩ rfl rfl ?_
                refine Run.one ((ok_pick rfl rfl rfl).sub (bool_eq (c := decide (¬ (x1 = x2 ∧ y1 = y2) ∧ 1 < t)) (by first | exact decide_eq_decide.2 ⟨fun h => ⟨by rw [Bool.not_eq_true'] at h10_34; exact of_decide_eq_false h10_34, tri_gt_iff.1 h⟩, fun h => tri_gt_iff.2 h.2⟩ | exact (decide_eq_false fun h => h.1 (by simpa using h10_34)).symm))) ⟨_, _, rfl, rfl, rfl⟩ rfl rfl ?_
                refine Run.one ((ok_eql_bool rfl rfl rfl Tryz.isBool4).sub (bool_eq (c := true) (by simp))) ⟨_, _, rfl, rfl, rfl⟩ rfl rfl ?_
                refine Run.one (ok_pick rfl rfl rfl) rfl rfl rfl ?_
                refine Run.one (ok_move rfl rfl) rfl rfl rfl ?_
                refine Run.one (ok_call rfl rfl wakes9_spec) ⟨_, _, rfl, rfl, rfl⟩ rfl rfl ?_
                refine Run.one (ok_pick rfl rfl rfl) rfl rfl rfl ?_
                refine Run.one (ok_assign rfl rfl) rfl rfl rfl ?_
                refine Run.nil ?_
                refine Run.nil ?_
                refine T_ret ?_
                exact ⟨_, [], .one (.tmp rfl), List.nil_sublist _, rfl, rfl⟩
              · refine Run.one (ok_move rfl rfl) ⟨_, _, rfl, rfl, rfl⟩ rfl rfl ?_
                refine Run.no ⟨_, _, rfl, rfl, rfl⟩ rfl rfl ?_
                refine Run.no ⟨_, _, rfl, rfl, rfl⟩ rfl rfl ?_
                refine Run.no ⟨_, _, rfl, rfl, rfl⟩ rfl rfl ?_
                refine Run.no ⟨_, _, rfl, rfl, rfl⟩ rfl rfl ?_
                refine Run.one ((ok_pick rfl rfl rfl).sub (bool_eq (c := decide (¬ (x1 = x2 ∧ y1 = y2) ∧ 1 < t)) (by first | exact decide_eq_decide.2 ⟨fun h => ⟨by rw [Bool.not_eq_true'] at h10_34; exact of_decide_eq_false h10_34, tri_gt_iff.1 h⟩, fun h => tri_gt_iff.2 h.2⟩ | exact (decide_eq_false fun h => h.1 (by simpa using h10_34)).symm))) ⟨_, _, rfl, rfl, rfl⟩ rfl rfl ?_
                refine Run.one ((ok_eql_bool rfl rfl rfl Tryz.isBool4).sub (bool_eq (c := true) (by simp))) ⟨_, _, rfl, rfl, rfl⟩ rfl rfl ?_
                refine Run.one (ok_pick rfl rfl rfl) rfl rfl rfl ?_
                refine Run.one (ok_move rfl rfl) rfl rfl rfl ?_
                refine Run.one (ok_call rfl rfl wakes9_spec) ⟨_, _, rfl, rfl, rfl⟩ rfl rfl ?_
                refine Run.one (ok_pick rfl rfl rfl) rfl rfl rfl ?_
                refine Run.one (ok_assign rfl rfl) rfl rfl rfl ?_
                refine Run.nil ?_
                refine Run.nil ?_
                refine T_ret ?_
                exact ⟨_, [], .one (.tmp rfl), List.nil_sublist _, rfl, rfl⟩
        · have k7_2 := of_decide_eq_false h7_2
          refine Run.one (ok_move rfl rfl) rfl rfl rfl ?_
          refine Run.no ⟨_, _, rfl, rfl, rfl⟩ rfl rfl ?_
          refine Run.no ⟨_, _, rfl, rfl, rfl⟩ rfl rfl ?_
          refine Run.no ⟨_, _, rfl, rfl, rfl⟩ rfl rfl ?_
          refine Run.no ⟨_, _, rfl, rfl, rfl⟩ rfl rfl ?_
          refine Run.one (ok_pick rfl rfl rfl) rfl rfl rfl ?_
          refine Run.one (ok_assign rfl rfl) rfl rfl rfl ?_
          refine Run.nil ?_
          refine Run.nil ?_
          refine T_regionS ?_
          refine Run.one (ok_load_agg rfl rfl rfl rfl) rfl rfl rfl ?_
          refine Run.one (ok_load_agg rfl rfl rfl rfl) rfl rfl rfl ?_
          refine Run.one (ok_call rfl rfl (rpSame_spec (by omega))) rfl rfl rfl ?_
          refine Run.one (ok_assign rfl rfl) rfl rfl rfl ?_
          refine Run.nil ?_
          refine T_drawS 10 (by kernel_rfl) ?_
          refine Run.one (ok_load_agg rfl rfl rfl rfl) rfl rfl rfl ?_
          refine Run.one (ok_call rfl rfl (rqSign_spec (by omega))) rfl rfl rfl ?_
          refine Run.oneB (ok_cmp rfl rfl rfl rfl) rfl rfl rfl (fun h9_2 => ?_) (fun h9_2 => ?_)
          · have k9_2 := of_decide_eq_true h9_2
            refine Run.one (ok_move rfl rfl) rfl rfl rfl ?_
            refine Run.one (ok_load_agg rfl rfl rfl rfl) ⟨_, _, rfl, rfl, rfl⟩ rfl rfl ?_
            refine Run.one (ok_call rfl rfl (rqOf_spec (n := 1) (q := 1) (by decide) (by decide))) ⟨_, _, rfl, rfl, rfl⟩ rfl rfl ?_
            refine Run.one (ok_call rfl rfl (rqcmp_spec (by omega))) ⟨_, _, rfl, rfl, rfl⟩ rfl rfl ?_
            refine Run.one (ok_cmp rfl rfl rfl rfl) ⟨_, _, rfl, rfl, rfl⟩ rfl rfl ?_
            refine Run.one ((ok_pick rfl rfl rfl).sub (bool_eq (c := decide (0 < t ∧ t < 1)) (decide_eq_decide.2 ⟨fun h => ⟨tri_gt_iff.1 k9_2, tri_lt0.1 h⟩, fun h => tri_lt0.2 h.2⟩))) rfl rfl rfl ?_
            refine Run.one (ok_assign rfl rfl) rfl rfl rfl ?_
            refine Run.nil ?_
            refine Run.nil ?_
            refine T_drawS 47 (by kernel_rfl) ?_
            refine Run.one (ok_load_agg rfl rfl rfl rfl) rfl rfl rfl ?_
            refine Run.one (ok_load_agg rfl rfl rfl rfl) rfl rfl rfl ?_
            refine Run.one (ok_load_own_agg 0 rfl rfl rfl rfl rfl) rfl rfl rfl ?_
            refine Run.one ((ok_call rfl rfl (sOn_spec (by unfold cap; omega))).sub (bool_eq (c := decide ((0 ≤ t ∧ t ≤ 1) ∨ (x1 = x2 ∧ y1 = y2))) (decide_eq_decide.2 onP_at))) rfl rfl rfl ?_
            refine Run.one (ok_move rfl rfl) rfl rfl rfl ?_
            refine Run.one (ok_move rfl rfl) rfl rfl rfl ?_
            refine Run.one (ok_move rfl rfl) ⟨_, _, rfl, rfl, rfl⟩ rfl rfl ?_
            refine Run.one ((ok_pick rfl rfl rfl).sub (bool_eq (c := decide ((0 ≤ t ∧ t ≤ 1) ∨ (x1 = x2 ∧ y1 = y2))) (by first | exact (decide_eq_true (.inl k10_4)).symm | exact decide_eq_decide.2 ⟨.inr, fun h => h.resolve_left k10_4⟩ | exact decide_eq_decide.2 ⟨.inr, fun h => h.resolve_left fun h => k7_2 (tri_ge_iff.2 h.1)⟩))) rfl rfl rfl ?_
            refine Run.one ((ok_eql_bool rfl rfl rfl Tryz.isBool4).sub (bool_eq (c := true) (by simp))) rfl rfl rfl ?_
            refine Run.one (ok_move rfl rfl) rfl rfl rfl ?_
            refine Run.one (ok_load_agg rfl rfl rfl rfl) ⟨_, _, rfl, rfl, rfl⟩ rfl rfl ?_
            refine Run.one (ok_load_agg rfl rfl rfl rfl) ⟨_, _, rfl, rfl, rfl⟩ rfl rfl ?_
            refine Run.one (ok_load_own_agg 0 rfl rfl rfl rfl rfl) ⟨_, _, rfl, rfl, rfl⟩ rfl rfl ?_
            refine Run.one ((ok_call rfl rfl (sWithin_spec (by unfold cap; omega))).sub (bool_eq (c := decide ((0 < t ∧ t < 1) ∧ ¬ (x1 = x2 ∧ y1 = y2))) (decide_eq_decide.2 within_at))) ⟨_, _, rfl, rfl, rfl⟩ rfl rfl ?_
            refine Run.oneB (ok_move rfl rfl) ⟨_, _, rfl, rfl, rfl⟩ rfl rfl (fun h10_14 => ?_) (fun h10_14 => ?_)
            · have k10_14 := of_decide_eq_true h10_14
              refine Run.one (ok_move rfl rfl) ⟨_, _, rfl, rfl, rfl⟩ rfl rfl ?_
              refine Run.one (ok_move rfl rfl) ⟨_, _, rfl, rfl, rfl⟩ rfl rfl ?_
              refine Run.one (ok_not rfl rfl) ⟨_, _, rfl, rfl, rfl⟩ rfl rfl ?_
              refine Run.one ((ok_pick rfl rfl rfl).sub (bool_eq (c := decide ((0 < t ∧ t < 1) ∧ ¬ (x1 = x2 ∧ y1 = y2))) (by first | exact (decide_not.symm.trans (decide_eq_decide.2 ⟨fun h => ⟨k10_14, h⟩, fun h => h.2⟩)) | exact (decide_eq_false fun h => k10_14 h.1).symm | exact (decide_eq_false fun h => k9_2 (tri_gt_iff.2 h.1.1)).symm))) ⟨_, _, rfl, rfl, rfl⟩ rfl rfl ?_
              refine Run.one ((ok_eql_bool rfl rfl rfl Tryz.isBool4).sub (bool_eq (c := true) (by simp))) ⟨_, _, rfl, rfl, rfl⟩ rfl rfl ?_
              refine Run.one (ok_pick rfl rfl rfl) rfl rfl rfl ?_
              refine Run.one (ok_move rfl rfl) rfl rfl rfl ?_
              refine Run.one (ok_load_agg rfl rfl rfl rfl) ⟨_, _, rfl, rfl, rfl⟩ rfl rfl ?_
              refine Run.one (ok_load_agg rfl rfl rfl rfl) ⟨_, _, rfl, rfl, rfl⟩ rfl rfl ?_
              refine Run.one (ok_load_own_agg 0 rfl rfl rfl rfl rfl) ⟨_, _, rfl, rfl, rfl⟩ rfl rfl ?_
              refine Run.one ((ok_call rfl rfl (sSide_spec (by unfold cap; omega))).sub (int_eq (n := 0) (by rw [crs_at]; rfl))) ⟨_, _, rfl, rfl, rfl⟩ rfl rfl ?_
              refine Run.one (ok_cmp rfl rfl rfl rfl) ⟨_, _, rfl, rfl, rfl⟩ rfl rfl ?_
              refine Run.one (ok_pick rfl rfl rfl) rfl rfl rfl ?_
              refine Run.one (ok_move rfl rfl) rfl rfl rfl ?_
              refine Run.one (ok_load_agg rfl rfl rfl rfl) ⟨_, _, rfl, rfl, rfl⟩ rfl rfl ?_
              refine Run.one (ok_load_agg rfl rfl rfl rfl) ⟨_, _, rfl, rfl, rfl⟩ rfl rfl ?_
              refine Run.one (ok_load_own_agg 0 rfl rfl rfl rfl rfl) ⟨_, _, rfl, rfl, rfl⟩ rfl rfl ?_
              refine Run.one ((ok_call rfl rfl (sStraight_spec (by unfold cap; omega))).sub (bool_eq (c := decide (¬ (x1 = x2 ∧ y1 = y2) ∧ 1 < t)) (decide_eq_decide.2 straight_at))) ⟨_, _, rfl, rfl, rfl⟩ rfl rfl ?_
              refine Run.one (ok_move rfl rfl) ⟨_, _, rfl, rfl, rfl⟩ rfl rfl ?_
              refine Run.oneB (ok_not rfl rfl) ⟨_, _, rfl, rfl, rfl⟩ rfl rfl (fun h10_34 => ?_) (fun h10_34 => ?_)
              · refine Run.one (ok_move rfl rfl) ⟨_, _, rfl, rfl, rfl⟩ rfl rfl ?_
                refine Run.one (ok_load_agg rfl rfl rfl rfl) ⟨_, _, rfl, rfl, rfl⟩ rfl rfl ?_
                refine Run.one (ok_call rfl rfl (rqOf_spec (n := 1) (q := 1) (by decide) (by decide))) ⟨_, _, rfl, rfl, rfl⟩ rfl rfl ?_
                refine Run.one (ok_call rfl rfl (rqcmp_spec (by omega))) ⟨_, _, rfl, rfl, rfl⟩ rfl rfl ?_
                refine Run.one (ok_cmp rfl rfl rfl rfl) ⟨_, _, rfl, rfl, rfl⟩ rfl rfl ?_
                refine Run.one ((ok_pick rfl rfl rfl).sub (bool_eq (c := decide (¬ (x1 = x2 ∧ y1 = y2) ∧ 1 < t)) (by first | exact decide_eq_decide.2 ⟨fun h => ⟨by rw [Bool.not_eq_true'] at h10_34; exact of_decide_eq_false h10_34, tri_gt_iff.1 h⟩, fun h => tri_gt_iff.2 h.2⟩ | exact (decide_eq_false fun h => h.1 (by simpa using h10_34)).symm))) ⟨_, _, rfl, rfl, rfl⟩ rfl rfl ?_
                refine Run.one ((ok_eql_bool rfl rfl rfl Tryz.isBool4).sub (bool_eq (c := true) (by simp))) ⟨_, _, rfl, rfl, rfl⟩ rfl rfl ?_
                refine Run.one (ok_pick rfl rfl rfl) rfl rfl rfl ?_
                refine Run.one (ok_move rfl rfl) rfl rfl rfl ?_
                refine Run.one (ok_call rfl rfl wakes9_spec) ⟨_, _, rfl, rfl, rfl⟩ rfl rfl ?_
                refine Run.one (ok_pick rfl rfl rfl) rfl rfl rfl ?_
                refine Run.one (ok_assign rfl rfl) rfl rfl rfl ?_
                refine Run.nil ?_
                refine Run.nil ?_
                refine T_ret ?_
                exact ⟨_, [], .one (.tmp rfl), List.nil_sublist _, rfl, rfl⟩
              · refine Run.one (ok_move rfl rfl) ⟨_, _, rfl, rfl, rfl⟩ rfl rfl ?_
                refine Run.no ⟨_, _, rfl, rfl, rfl⟩ rfl rfl ?_
                refine Run.no ⟨_, _, rfl, rfl, rfl⟩ rfl rfl ?_
                refine Run.no ⟨_, _, rfl, rfl, rfl⟩ rfl rfl ?_
                refine Run.no ⟨_, _, rfl, rfl, rfl⟩ rfl rfl ?_
                refine Run.one ((ok_pick rfl rfl rfl).sub (bool_eq (c := decide (¬ (x1 = x2 ∧ y1 = y2) ∧ 1 < t)) (by first | exact decide_eq_decide.2 ⟨fun h => ⟨by rw [Bool.not_eq_true'] at h10_34; exact of_decide_eq_false h10_34, tri_gt_iff.1 h⟩, fun h => tri_gt_iff.2 h.2⟩ | exact (decide_eq_false fun h => h.1 (by simpa using h10_34)).symm))) ⟨_, _, rfl, rfl, rfl⟩ rfl rfl ?_
                refine Run.one ((ok_eql_bool rfl rfl rfl Tryz.isBool4).sub (bool_eq (c := true) (by simp))) ⟨_, _, rfl, rfl, rfl⟩ rfl rfl ?_
                refine Run.one (ok_pick rfl rfl rfl) rfl rfl rfl ?_
                refine Run.one (ok_move rfl rfl) rfl rfl rfl ?_
                refine Run.one (ok_call rfl rfl wakes9_spec) ⟨_, _, rfl, rfl, rfl⟩ rfl rfl ?_
                refine Run.one (ok_pick rfl rfl rfl) rfl rfl rfl ?_
                refine Run.one (ok_assign rfl rfl) rfl rfl rfl ?_
                refine Run.nil ?_
                refine Run.nil ?_
                refine T_ret ?_
                exact ⟨_, [], .one (.tmp rfl), List.nil_sublist _, rfl, rfl⟩
            · have k10_14 := of_decide_eq_false h10_14
              refine Run.one (ok_move rfl rfl) ⟨_, _, rfl, rfl, rfl⟩ rfl rfl ?_
              refine Run.no ⟨_, _, rfl, rfl, rfl⟩ rfl rfl ?_
              refine Run.no ⟨_, _, rfl, rfl, rfl⟩ rfl rfl ?_
              refine Run.one ((ok_pick rfl rfl rfl).sub (bool_eq (c := decide ((0 < t ∧ t < 1) ∧ ¬ (x1 = x2 ∧ y1 = y2))) (by first | exact (decide_not.symm.trans (decide_eq_decide.2 ⟨fun h => ⟨k10_14, h⟩, fun h => h.2⟩)) | exact (decide_eq_false fun h => k10_14 h.1).symm | exact (decide_eq_false fun h => k9_2 (tri_gt_iff.2 h.1.1)).symm))) ⟨_, _, rfl, rfl, rfl⟩ rfl rfl ?_
              refine Run.one ((ok_eql_bool rfl rfl rfl Tryz.isBool4).sub (bool_eq (c := true) (by simp))) ⟨_, _, rfl, rfl, rfl⟩ rfl rfl ?_
              refine Run.one (ok_pick rfl rfl rfl) rfl rfl rfl ?_
              refine Run.one (ok_move rfl rfl) rfl rfl rfl ?_
              refine Run.one (ok_load_agg rfl rfl rfl rfl) ⟨_, _, rfl, rfl, rfl⟩ rfl rfl ?_
              refine Run.one (ok_load_agg rfl rfl rfl rfl) ⟨_, _, rfl, rfl, rfl⟩ rfl rfl ?_
              refine Run.one (ok_load_own_agg 0 rfl rfl rfl rfl rfl) ⟨_, _, rfl, rfl, rfl⟩ rfl rfl ?_
              refine Run.one ((ok_call rfl rfl (sSide_spec (by unfold cap; omega))).sub (int_eq (n := 0) (by rw [crs_at]; rfl))) ⟨_, _, rfl, rfl, rfl⟩ rfl rfl ?_
              refine Run.one (ok_cmp rfl rfl rfl rfl) ⟨_, _, rfl, rfl, rfl⟩ rfl rfl ?_
              refine Run.one (ok_pick rfl rfl rfl) rfl rfl rfl ?_
              refine Run.one (ok_move rfl rfl) rfl rfl rfl ?_
              refine Run.one (ok_load_agg rfl rfl rfl rfl) ⟨_, _, rfl, rfl, rfl⟩ rfl rfl ?_
              refine Run.one (ok_load_agg rfl rfl rfl rfl) ⟨_, _, rfl, rfl, rfl⟩ rfl rfl ?_
              refine Run.one (ok_load_own_agg 0 rfl rfl rfl rfl rfl) ⟨_, _, rfl, rfl, rfl⟩ rfl rfl ?_
              refine Run.one ((ok_call rfl rfl (sStraight_spec (by unfold cap; omega))).sub (bool_eq (c := decide (¬ (x1 = x2 ∧ y1 = y2) ∧ 1 < t)) (decide_eq_decide.2 straight_at))) ⟨_, _, rfl, rfl, rfl⟩ rfl rfl ?_
              refine Run.one (ok_move rfl rfl) ⟨_, _, rfl, rfl, rfl⟩ rfl rfl ?_
              refine Run.oneB (ok_not rfl rfl) ⟨_, _, rfl, rfl, rfl⟩ rfl rfl (fun h10_34 => ?_) (fun h10_34 => ?_)
              · refine Run.one (ok_move rfl rfl) ⟨_, _, rfl, rfl, rfl⟩ rfl rfl ?_
                refine Run.one (ok_load_agg rfl rfl rfl rfl) ⟨_, _, rfl, rfl, rfl⟩ rfl rfl ?_
                refine Run.one (ok_call rfl rfl (rqOf_spec (n := 1) (q := 1) (by decide) (by decide))) ⟨_, _, rfl, rfl, rfl⟩ rfl rfl ?_
                refine Run.one (ok_call rfl rfl (rqcmp_spec (by omega))) ⟨_, _, rfl, rfl, rfl⟩ rfl rfl ?_
                refine Run.one (ok_cmp rfl rfl rfl rfl) ⟨_, _, rfl, rfl, rfl⟩ rfl rfl ?_
                refine Run.one ((ok_pick rfl rfl rfl).sub (bool_eq (c := decide (¬ (x1 = x2 ∧ y1 = y2) ∧ 1 < t)) (by first | exact decide_eq_decide.2 ⟨fun h => ⟨by rw [Bool.not_eq_true'] at h10_34; exact of_decide_eq_false h10_34, tri_gt_iff.1 h⟩, fun h => tri_gt_iff.2 h.2⟩ | exact (decide_eq_false fun h => h.1 (by simpa using h10_34)).symm))) ⟨_, _, rfl, rfl, rfl⟩ rfl rfl ?_
                refine Run.one ((ok_eql_bool rfl rfl rfl Tryz.isBool4).sub (bool_eq (c := true) (by simp))) ⟨_, _, rfl, rfl, rfl⟩ rfl rfl ?_
                refine Run.one (ok_pick rfl rfl rfl) rfl rfl rfl ?_
                refine Run.one (ok_move rfl rfl) rfl rfl rfl ?_
                refine Run.one (ok_call rfl rfl wakes9_spec) ⟨_, _, rfl, rfl, rfl⟩ rfl rfl ?_
                refine Run.one (ok_pick rfl rfl rfl) rfl rfl rfl ?_
                refine Run.one (ok_assign rfl rfl) rfl rfl rfl ?_
                refine Run.nil ?_
                refine Run.nil ?_
                refine T_ret ?_
                exact ⟨_, [], .one (.tmp rfl), List.nil_sublist _, rfl, rfl⟩
              · refine Run.one (ok_move rfl rfl) ⟨_, _, rfl, rfl, rfl⟩ rfl rfl ?_
                refine Run.no ⟨_, _, rfl, rfl, rfl⟩ rfl rfl ?_
                refine Run.no ⟨_, _, rfl, rfl, rfl⟩ rfl rfl ?_
                refine Run.no ⟨_, _, rfl, rfl, rfl⟩ rfl rfl ?_
                refine Run.no ⟨_, _, rfl, rfl, rfl⟩ rfl rfl ?_
                refine Run.one ((ok_pick rfl rfl rfl).sub (bool_eq (c := decide (¬ (x1 = x2 ∧ y1 = y2) ∧ 1 < t)) (by first | exact decide_eq_decide.2 ⟨fun h => ⟨by rw [Bool.not_eq_true'] at h10_34; exact of_decide_eq_false h10_34, tri_gt_iff.1 h⟩, fun h => tri_gt_iff.2 h.2⟩ | exact (decide_eq_false fun h => h.1 (by simpa using h10_34)).symm))) ⟨_, _, rfl, rfl, rfl⟩ rfl rfl ?_
                refine Run.one ((ok_eql_bool rfl rfl rfl Tryz.isBool4).sub (bool_eq (c := true) (by simp))) ⟨_, _, rfl, rfl, rfl⟩ rfl rfl ?_
                refine Run.one (ok_pick rfl rfl rfl) rfl rfl rfl ?_
                refine Run.one (ok_move rfl rfl) rfl rfl rfl ?_
                refine Run.one (ok_call rfl rfl wakes9_spec) ⟨_, _, rfl, rfl, rfl⟩ rfl rfl ?_
                refine Run.one (ok_pick rfl rfl rfl) rfl rfl rfl ?_
                refine Run.one (ok_assign rfl rfl) rfl rfl rfl ?_
                refine Run.nil ?_
                refine Run.nil ?_
                refine T_ret ?_
                exact ⟨_, [], .one (.tmp rfl), List.nil_sublist _, rfl, rfl⟩
          · have k9_2 := of_decide_eq_false h9_2
            refine Run.one (ok_move rfl rfl) rfl rfl rfl ?_
            refine Run.no ⟨_, _, rfl, rfl, rfl⟩ rfl rfl ?_
            refine Run.no ⟨_, _, rfl, rfl, rfl⟩ rfl rfl ?_
            refine Run.no ⟨_, _, rfl, rfl, rfl⟩ rfl rfl ?_
            refine Run.no ⟨_, _, rfl, rfl, rfl⟩ rfl rfl ?_
            refine Run.one (ok_pick rfl rfl rfl) rfl rfl rfl ?_
            refine Run.one (ok_assign rfl rfl) rfl rfl rfl ?_
            refine Run.nil ?_
            refine Run.nil ?_
            refine T_drawS 47 (by kernel_rfl) ?_
            refine Run.one (ok_load_agg rfl rfl rfl rfl) rfl rfl rfl ?_
            refine Run.one (ok_load_agg rfl rfl rfl rfl) rfl rfl rfl ?_
            refine Run.one (ok_load_own_agg 0 rfl rfl rfl rfl rfl) rfl rfl rfl ?_
            refine Run.one ((ok_call rfl rfl (sOn_spec (by unfold cap; omega))).sub (bool_eq (c := decide ((0 ≤ t ∧ t ≤ 1) ∨ (x1 = x2 ∧ y1 = y2))) (decide_eq_decide.2 onP_at))) rfl rfl rfl ?_
            refine Run.one (ok_move rfl rfl) rfl rfl rfl ?_
            refine Run.one (ok_move rfl rfl) rfl rfl rfl ?_
            refine Run.one (ok_move rfl rfl) ⟨_, _, rfl, rfl, rfl⟩ rfl rfl ?_
            refine Run.one ((ok_pick rfl rfl rfl).sub (bool_eq (c := decide ((0 ≤ t ∧ t ≤ 1) ∨ (x1 = x2 ∧ y1 = y2))) (by first | exact (decide_eq_true (.inl k10_4)).symm | exact decide_eq_decide.2 ⟨.inr, fun h => h.resolve_left k10_4⟩ | exact decide_eq_decide.2 ⟨.inr, fun h => h.resolve_left fun h => k7_2 (tri_ge_iff.2 h.1)⟩))) rfl rfl rfl ?_
            refine Run.one ((ok_eql_bool rfl rfl rfl Tryz.isBool4).sub (bool_eq (c := true) (by simp))) rfl rfl rfl ?_
            refine Run.one (ok_move rfl rfl) rfl rfl rfl ?_
            refine Run.one (ok_load_agg rfl rfl rfl rfl) ⟨_, _, rfl, rfl, rfl⟩ rfl rfl ?_
            refine Run.one (ok_load_agg rfl rfl rfl rfl) ⟨_, _, rfl, rfl, rfl⟩ rfl rfl ?_
            refine Run.one (ok_load_own_agg 0 rfl rfl rfl rfl rfl) ⟨_, _, rfl, rfl, rfl⟩ rfl rfl ?_
            refine Run.one ((ok_call rfl rfl (sWithin_spec (by unfold cap; omega))).sub (bool_eq (c := decide ((0 < t ∧ t < 1) ∧ ¬ (x1 = x2 ∧ y1 = y2))) (decide_eq_decide.2 within_at))) ⟨_, _, rfl, rfl, rfl⟩ rfl rfl ?_
            refine Run.one (ok_move rfl rfl) ⟨_, _, rfl, rfl, rfl⟩ rfl rfl ?_
            refine Run.one (ok_move rfl rfl) ⟨_, _, rfl, rfl, rfl⟩ rfl rfl ?_
            refine Run.no ⟨_, _, rfl, rfl, rfl⟩ rfl rfl ?_
            refine Run.no ⟨_, _, rfl, rfl, rfl⟩ rfl rfl ?_
            refine Run.one ((ok_pick rfl rfl rfl).sub (bool_eq (c := decide ((0 < t ∧ t < 1) ∧ ¬ (x1 = x2 ∧ y1 = y2))) (by first | exact (decide_not.symm.trans (decide_eq_decide.2 ⟨fun h => ⟨k10_14, h⟩, fun h => h.2⟩)) | exact (decide_eq_false fun h => k10_14 h.1).symm | exact (decide_eq_false fun h => k9_2 (tri_gt_iff.2 h.1.1)).symm))) ⟨_, _, rfl, rfl, rfl⟩ rfl rfl ?_
            refine Run.one ((ok_eql_bool rfl rfl rfl Tryz.isBool4).sub (bool_eq (c := true) (by simp))) ⟨_, _, rfl, rfl, rfl⟩ rfl rfl ?_
            refine Run.one (ok_pick rfl rfl rfl) rfl rfl rfl ?_
            refine Run.one (ok_move rfl rfl) rfl rfl rfl ?_
            refine Run.one (ok_load_agg rfl rfl rfl rfl) ⟨_, _, rfl, rfl, rfl⟩ rfl rfl ?_
            refine Run.one (ok_load_agg rfl rfl rfl rfl) ⟨_, _, rfl, rfl, rfl⟩ rfl rfl ?_
            refine Run.one (ok_load_own_agg 0 rfl rfl rfl rfl rfl) ⟨_, _, rfl, rfl, rfl⟩ rfl rfl ?_
            refine Run.one ((ok_call rfl rfl (sSide_spec (by unfold cap; omega))).sub (int_eq (n := 0) (by rw [crs_at]; rfl))) ⟨_, _, rfl, rfl, rfl⟩ rfl rfl ?_
            refine Run.one (ok_cmp rfl rfl rfl rfl) ⟨_, _, rfl, rfl, rfl⟩ rfl rfl ?_
            refine Run.one (ok_pick rfl rfl rfl) rfl rfl rfl ?_
            refine Run.one (ok_move rfl rfl) rfl rfl rfl ?_
            refine Run.one (ok_load_agg rfl rfl rfl rfl) ⟨_, _, rfl, rfl, rfl⟩ rfl rfl ?_
            refine Run.one (ok_load_agg rfl rfl rfl rfl) ⟨_, _, rfl, rfl, rfl⟩ rfl rfl ?_
            refine Run.one (ok_load_own_agg 0 rfl rfl rfl rfl rfl) ⟨_, _, rfl, rfl, rfl⟩ rfl rfl ?_
            refine Run.one ((ok_call rfl rfl (sStraight_spec (by unfold cap; omega))).sub (bool_eq (c := decide (¬ (x1 = x2 ∧ y1 = y2) ∧ 1 < t)) (decide_eq_decide.2 straight_at))) ⟨_, _, rfl, rfl, rfl⟩ rfl rfl ?_
            refine Run.one (ok_move rfl rfl) ⟨_, _, rfl, rfl, rfl⟩ rfl rfl ?_
            refine Run.oneB (ok_not rfl rfl) ⟨_, _, rfl, rfl, rfl⟩ rfl rfl (fun h10_34 => ?_) (fun h10_34 => ?_)
            · refine Run.one (ok_move rfl rfl) ⟨_, _, rfl, rfl, rfl⟩ rfl rfl ?_
              refine Run.one (ok_load_agg rfl rfl rfl rfl) ⟨_, _, rfl, rfl, rfl⟩ rfl rfl ?_
              refine Run.one (ok_call rfl rfl (rqOf_spec (n := 1) (q := 1) (by decide) (by decide))) ⟨_, _, rfl, rfl, rfl⟩ rfl rfl ?_
              refine Run.one (ok_call rfl rfl (rqcmp_spec (by omega))) ⟨_, _, rfl, rfl, rfl⟩ rfl rfl ?_
              refine Run.one (ok_cmp rfl rfl rfl rfl) ⟨_, _, rfl, rfl, rfl⟩ rfl rfl ?_
              refine Run.one ((ok_pick rfl rfl rfl).sub (bool_eq (c := decide (¬ (x1 = x2 ∧ y1 = y2) ∧ 1 < t)) (by first | exact decide_eq_decide.2 ⟨fun h => ⟨by rw [Bool.not_eq_true'] at h10_34; exact of_decide_eq_false h10_34, tri_gt_iff.1 h⟩, fun h => tri_gt_iff.2 h.2⟩ | exact (decide_eq_false fun h => h.1 (by simpa using h10_34)).symm))) ⟨_, _, rfl, rfl, rfl⟩ rfl rfl ?_
              refine Run.one ((ok_eql_bool rfl rfl rfl Tryz.isBool4).sub (bool_eq (c := true) (by simp))) ⟨_, _, rfl, rfl, rfl⟩ rfl rfl ?_
              refine Run.one (ok_pick rfl rfl rfl) rfl rfl rfl ?_
              refine Run.one (ok_move rfl rfl) rfl rfl rfl ?_
              refine Run.one (ok_call rfl rfl wakes9_spec) ⟨_, _, rfl, rfl, rfl⟩ rfl rfl ?_
              refine Run.one (ok_pick rfl rfl rfl) rfl rfl rfl ?_
              refine Run.one (ok_assign rfl rfl) rfl rfl rfl ?_
              refine Run.nil ?_
              refine Run.nil ?_
              refine T_ret ?_
              exact ⟨_, [], .one (.tmp rfl), List.nil_sublist _, rfl, rfl⟩
            · refine Run.one (ok_move rfl rfl) ⟨_, _, rfl, rfl, rfl⟩ rfl rfl ?_
              refine Run.no ⟨_, _, rfl, rfl, rfl⟩ rfl rfl ?_
              refine Run.no ⟨_, _, rfl, rfl, rfl⟩ rfl rfl ?_
              refine Run.no ⟨_, _, rfl, rfl, rfl⟩ rfl rfl ?_
              refine Run.no ⟨_, _, rfl, rfl, rfl⟩ rfl rfl ?_
              refine Run.one ((ok_pick rfl rfl rfl).sub (bool_eq (c := decide (¬ (x1 = x2 ∧ y1 = y2) ∧ 1 < t)) (by first | exact decide_eq_decide.2 ⟨fun h => ⟨by rw [Bool.not_eq_true'] at h10_34; exact of_decide_eq_false h10_34, tri_gt_iff.1 h⟩, fun h => tri_gt_iff.2 h.2⟩ | exact (decide_eq_false fun h => h.1 (by simpa using h10_34)).symm))) ⟨_, _, rfl, rfl, rfl⟩ rfl rfl ?_
              refine Run.one ((ok_eql_bool rfl rfl rfl Tryz.isBool4).sub (bool_eq (c := true) (by simp))) ⟨_, _, rfl, rfl, rfl⟩ rfl rfl ?_
              refine Run.one (ok_pick rfl rfl rfl) rfl rfl rfl ?_
              refine Run.one (ok_move rfl rfl) rfl rfl rfl ?_
              refine Run.one (ok_call rfl rfl wakes9_spec) ⟨_, _, rfl, rfl, rfl⟩ rfl rfl ?_
              refine Run.one (ok_pick rfl rfl rfl) rfl rfl rfl ?_
              refine Run.one (ok_assign rfl rfl) rfl rfl rfl ?_
              refine Run.nil ?_
              refine Run.nil ?_
              refine T_ret ?_
              exact ⟨_, [], .one (.tmp rfl), List.nil_sublist _, rfl, rfl⟩
      · refine Run.one (ok_move rfl rfl) ⟨_, _, rfl, rfl, rfl⟩ rfl rfl ?_
        refine Run.no ⟨_, _, rfl, rfl, rfl⟩ rfl rfl ?_
        refine Run.no ⟨_, _, rfl, rfl, rfl⟩ rfl rfl ?_
        refine Run.no ⟨_, _, rfl, rfl, rfl⟩ rfl rfl ?_
        refine Run.no ⟨_, _, rfl, rfl, rfl⟩ rfl rfl ?_
        refine Run.no ⟨_, _, rfl, rfl, rfl⟩ rfl rfl ?_
        refine Run.no ⟨_, _, rfl, rfl, rfl⟩ rfl rfl ?_
        refine Run.no ⟨_, _, rfl, rfl, rfl⟩ rfl rfl ?_
        refine Run.no ⟨_, _, rfl, rfl, rfl⟩ rfl rfl ?_
        refine Run.no ⟨_, _, rfl, rfl, rfl⟩ rfl rfl ?_
        refine Run.no ⟨_, _, rfl, rfl, rfl⟩ rfl rfl ?_
        refine Run.no ⟨_, _, rfl, rfl, rfl⟩ rfl rfl ?_
        refine Run.no ⟨_, _, rfl, rfl, rfl⟩ rfl rfl ?_
        refine Run.no ⟨_, _, rfl, rfl, rfl⟩ rfl rfl ?_
        refine Run.one (ok_pick rfl rfl rfl) ⟨_, _, rfl, rfl, rfl⟩ rfl rfl ?_
        refine Run.one (ok_pick rfl rfl rfl) rfl rfl rfl ?_
        refine Run.one (ok_move rfl rfl) rfl rfl rfl ?_
        refine Run.one (ok_load_agg rfl rfl rfl rfl) ⟨_, _, rfl, rfl, rfl⟩ rfl rfl ?_
        refine Run.one (ok_load_agg rfl rfl rfl rfl) ⟨_, _, rfl, rfl, rfl⟩ rfl rfl ?_
        refine Run.one (ok_load_agg rfl rfl rfl rfl) ⟨_, _, rfl, rfl, rfl⟩ rfl rfl ?_
        refine Run.one ((ok_call rfl rfl (sOn_spec (by unfold cap; omega))).sub (bool_eq (c := true) (decide_eq_true ⟨crs_end0 .., btw_left .., btw_left ..⟩))) ⟨_, _, rfl, rfl, rfl⟩ rfl rfl ?_
        refine Run.one (ok_not rfl rfl) ⟨_, _, rfl, rfl, rfl⟩ rfl rfl ?_
        refine Run.one (ok_pick rfl rfl rfl) rfl rfl rfl ?_
        refine Run.one (ok_move rfl rfl) rfl rfl rfl ?_
        refine Run.one (ok_load_agg rfl rfl rfl rfl) ⟨_, _, rfl, rfl, rfl⟩ rfl rfl ?_
        refine Run.one (ok_load_agg rfl rfl rfl rfl) ⟨_, _, rfl, rfl, rfl⟩ rfl rfl ?_
        refine Run.one (ok_load_agg rfl rfl rfl rfl) ⟨_, _, rfl, rfl, rfl⟩ rfl rfl ?_
        refine Run.one ((ok_call rfl rfl (sOn_spec (by unfold cap; omega))).sub (bool_eq (c := true) (decide_eq_true ⟨crs_end .., btw_right .., btw_right ..⟩))) ⟨_, _, rfl, rfl, rfl⟩ rfl rfl ?_
        refine Run.one (ok_not rfl rfl) ⟨_, _, rfl, rfl, rfl⟩ rfl rfl ?_
        refine Run.one (ok_pick rfl rfl rfl) rfl rfl rfl ?_
        refine Run.one (ok_move rfl rfl) rfl rfl rfl ?_
        refine Run.one ((ok_move rfl rfl).sub (bool_eq (c := false) h4_7)) ⟨_, _, rfl, rfl, rfl⟩ rfl rfl ?_
        refine Run.one (ok_move rfl rfl) ⟨_, _, rfl, rfl, rfl⟩ rfl rfl ?_
        refine Run.no ⟨_, _, rfl, rfl, rfl⟩ rfl rfl ?_
        refine Run.no ⟨_, _, rfl, rfl, rfl⟩ rfl rfl ?_
        refine Run.no ⟨_, _, rfl, rfl, rfl⟩ rfl rfl ?_
        refine Run.no ⟨_, _, rfl, rfl, rfl⟩ rfl rfl ?_
        refine Run.no ⟨_, _, rfl, rfl, rfl⟩ rfl rfl ?_
        refine Run.one (ok_pick rfl rfl rfl) ⟨_, _, rfl, rfl, rfl⟩ rfl rfl ?_
        refine Run.one (ok_pick rfl rfl rfl) rfl rfl rfl ?_
        refine Run.nil ?_
        refine Run.nil ?_
        refine T_condF rfl rfl ?_
        refine T_skip ?_
        refine T_regionS ?_
        refine Run.one (ok_load_agg rfl rfl rfl rfl) rfl rfl rfl ?_
        refine Run.one (ok_load_agg rfl rfl rfl rfl) rfl rfl rfl ?_
        refine Run.one (ok_load_agg rfl rfl rfl rfl) rfl rfl rfl ?_
        refine Run.one (ok_call rfl rfl (rpAt_spec (by omega))) rfl rfl rfl ?_
        refine Run.alloc rfl rfl rfl rfl rfl fun b10 => ?_
        refine Run.store 0 rfl rfl rfl rfl rfl rfl rfl rfl rfl ?_
        refine Run.nil ?_
        refine T_drawS 10 (by kernel_rfl) ?_
        refine Run.one (ok_load_agg rfl rfl rfl rfl) rfl rfl rfl ?_
        refine Run.one (ok_call rfl rfl (rqSign_spec (by omega))) rfl rfl rfl ?_
        refine Run.oneB (ok_cmp rfl rfl rfl rfl) rfl rfl rfl (fun h7_2 => ?_) (fun h7_2 => ?_)
        · have k7_2 := of_decide_eq_true h7_2
          refine Run.one (ok_move rfl rfl) rfl rfl rfl ?_
          refine Run.one (ok_load_agg rfl rfl rfl rfl) ⟨_, _, rfl, rfl, rfl⟩ rfl rfl ?_
          refine Run.one (ok_call rfl rfl (rqOf_spec (n := 1) (q := 1) (by decide) (by decide))) ⟨_, _, rfl, rfl, rfl⟩ rfl rfl ?_
          refine Run.one (ok_call rfl rfl (rqcmp_spec (by omega))) ⟨_, _, rfl, rfl, rfl⟩ rfl rfl ?_
          refine Run.one (ok_cmp rfl rfl rfl rfl) ⟨_, _, rfl, rfl, rfl⟩ rfl rfl ?_
          refine Run.one ((ok_pick rfl rfl rfl).sub (bool_eq (c := decide (0 ≤ t ∧ t ≤ 1)) (decide_eq_decide.2 ⟨fun h => ⟨tri_ge_iff.1 k7_2, tri_le_iff.1 h⟩, fun h => tri_le_iff.2 h.2⟩))) rfl rfl rfl ?_
          refine Run.one (ok_assign rfl rfl) rfl rfl rfl ?_
          refine Run.nil ?_
          refine Run.nil ?_
          refine T_regionS ?_
          refine Run.one (ok_load_agg rfl rfl rfl rfl) rfl rfl rfl ?_
          refine Run.one (ok_load_agg rfl rfl rfl rfl) rfl rfl rfl ?_
          refine Run.one (ok_call rfl rfl (rpSame_spec (by omega))) rfl rfl rfl ?_
          refine Run.one (ok_assign rfl rfl) rfl rfl rfl ?_
          refine Run.nil ?_
          refine T_drawS 10 (by kernel_rfl) ?_
          refine Run.one (ok_load_agg rfl rfl rfl rfl) rfl rfl rfl ?_
          refine Run.one (ok_call rfl rfl (rqSign_spec (by omega))) rfl rfl rfl ?_
          refine Run.oneB (ok_cmp rfl rfl rfl rfl) rfl rfl rfl (fun h9_2 => ?_) (fun h9_2 => ?_)
          · have k9_2 := of_decide_eq_true h9_2
            refine Run.one (ok_move rfl rfl) rfl rfl rfl ?_
            refine Run.one (ok_load_agg rfl rfl rfl rfl) ⟨_, _, rfl, rfl, rfl⟩ rfl rfl ?_
            refine Run.one (ok_call rfl rfl (rqOf_spec (n := 1) (q := 1) (by decide) (by decide))) ⟨_, _, rfl, rfl, rfl⟩ rfl rfl ?_
            refine Run.one (ok_call rfl rfl (rqcmp_spec (by omega))) ⟨_, _, rfl, rfl, rfl⟩ rfl rfl ?_
            refine Run.one (ok_cmp rfl rfl rfl rfl) ⟨_, _, rfl, rfl, rfl⟩ rfl rfl ?_
            refine Run.one ((ok_pick rfl rfl rfl).sub (bool_eq (c := decide (0 < t ∧ t < 1)) (decide_eq_decide.2 ⟨fun h => ⟨tri_gt_iff.1 k9_2, tri_lt0.1 h⟩, fun h => tri_lt0.2 h.2⟩))) rfl rfl rfl ?_
            refine Run.one (ok_assign rfl rfl) rfl rfl rfl ?_
            refine Run.nil ?_
            refine Run.nil ?_
            refine T_drawS 47 (by kernel_rfl) ?_
            refine Run.one (ok_load_agg rfl rfl rfl rfl) rfl rfl rfl ?_
            refine Run.one (ok_load_agg rfl rfl rfl rfl) rfl rfl rfl ?_
            refine Run.one (ok_load_own_agg 0 rfl rfl rfl rfl rfl) rfl rfl rfl ?_
            refine Run.one ((ok_call rfl rfl (sOn_spec (by unfold cap; omega))).sub (bool_eq (c := decide ((0 ≤ t ∧ t ≤ 1) ∨ (x1 = x2 ∧ y1 = y2))) (decide_eq_decide.2 onP_at))) rfl rfl rfl ?_
            refine Run.oneB (ok_move rfl rfl) rfl rfl rfl (fun h10_4 => ?_) (fun h10_4 => ?_)
            · have k10_4 := of_decide_eq_true h10_4
              refine Run.one (ok_move rfl rfl) rfl rfl rfl ?_
              refine Run.no ⟨_, _, rfl, rfl, rfl⟩ rfl rfl ?_
              refine Run.one ((ok_pick rfl rfl rfl).sub (bool_eq (c := decide ((0 ≤ t ∧ t ≤ 1) ∨ (x1 = x2 ∧ y1 = y2))) (by first | exact (decide_eq_true (.inl k10_4)).symm | exact decide_eq_decide.2 ⟨.inr, fun h => h.resolve_left k10_4⟩ | exact decide_eq_decide.2 ⟨.inr, fun h => h.resolve_left fun h => k7_2 (tri_ge_iff.2 h.1)⟩))) rfl rfl rfl ?_
              refine Run.one ((ok_eql_bool rfl rfl rfl Tryz.isBool4).sub (bool_eq (c := true) (by simp))) rfl rfl rfl ?_
              refine Run.one (ok_move rfl rfl) rfl rfl rfl ?_
              refine Run.one (ok_load_agg rfl rfl rfl rfl) ⟨_, _, rfl, rfl, rfl⟩ rfl rfl ?_
              refine Run.one (ok_load_agg rfl rfl rfl rfl) ⟨_, _, rfl, rfl, rfl⟩ rfl rfl ?_
              refine Run.one (ok_load_own_agg 0 rfl rfl rfl rfl rfl) ⟨_, _, rfl, rfl, rfl⟩ rfl rfl ?_
              refine Run.one ((ok_call rfl rfl (sWithin_spec (by unfold cap; omega))).sub (bool_eq (c := decide ((0 < t ∧ t < 1) ∧ ¬ (x1 = x2 ∧ y1 = y2))) (decide_eq_decide.2 within_at))) ⟨_, _, rfl, rfl, rfl⟩ rfl rfl ?_
              refine Run.oneB (ok_move rfl rfl) ⟨_, _, rfl, rfl, rfl⟩ rfl rfl (fun h10_14 => ?_) (fun h10_14 => ?_)
              · have k10_14 := of_decide_eq_true h10_14
                refine Run.one (ok_move rfl rfl) ⟨_, _, rfl, rfl, rfl⟩ rfl rfl ?_
                refine Run.one (ok_move rfl rfl) ⟨_, _, rfl, rfl, rfl⟩ rfl rfl ?_
                refine Run.one (ok_not rfl rfl) ⟨_, _, rfl, rfl, rfl⟩ rfl rfl ?_
                refine Run.one ((ok_pick rfl rfl rfl).sub (bool_eq (c := decide ((0 < t ∧ t < 1) ∧ ¬ (x1 = x2 ∧ y1 = y2))) (by first | exact (decide_not.symm.trans (decide_eq_decide.2 ⟨fun h => ⟨k10_14, h⟩, fun h => h.2⟩)) | exact (decide_eq_false fun h => k10_14 h.1).symm | exact (decide_eq_false fun h => k9_2 (tri_gt_iff.2 h.1.1)).symm))) ⟨_, _, rfl, rfl, rfl⟩ rfl rfl ?_
                refine Run.one ((ok_eql_bool rfl rfl rfl Tryz.isBool4).sub (bool_eq (c := true) (by simp))) ⟨_, _, rfl, rfl, rfl⟩ rfl rfl ?_
                refine Run.one (ok_pick rfl rfl rfl) rfl rfl rfl ?_
                refine Run.one (ok_move rfl rfl) rfl rfl rfl ?_
                refine Run.one (ok_load_agg rfl rfl rfl rfl) ⟨_, _, rfl, rfl, rfl⟩ rfl rfl ?_
                refine Run.one (ok_load_agg rfl rfl rfl rfl) ⟨_, _, rfl, rfl, rfl⟩ rfl rfl ?_
                refine Run.one (ok_load_own_agg 0 rfl rfl rfl rfl rfl) ⟨_, _, rfl, rfl, rfl⟩ rfl rfl ?_
                refine Run.one ((ok_call rfl rfl (sSide_spec (by unfold cap; omega))).sub (int_eq (n := 0) (by rw [crs_at]; rfl))) ⟨_, _, rfl, rfl, rfl⟩ rfl rfl ?_
                refine Run.one (ok_cmp rfl rfl rfl rfl) ⟨_, _, rfl, rfl, rfl⟩ rfl rfl ?_
                refine Run.one (ok_pick rfl rfl rfl) rfl rfl rfl ?_
                refine Run.one (ok_move rfl rfl) rfl rfl rfl ?_
                refine Run.one (ok_load_agg rfl rfl rfl rfl) ⟨_, _, rfl, rfl, rfl⟩ rfl rfl ?_
                refine Run.one (ok_load_agg rfl rfl rfl rfl) ⟨_, _, rfl, rfl, rfl⟩ rfl rfl ?_
                refine Run.one (ok_load_own_agg 0 rfl rfl rfl rfl rfl) ⟨_, _, rfl, rfl, rfl⟩ rfl rfl ?_
                refine Run.one ((ok_call rfl rfl (sStraight_spec (by unfold cap; omega))).sub (bool_eq (c := decide (¬ (x1 = x2 ∧ y1 = y2) ∧ 1 < t)) (decide_eq_decide.2 straight_at))) ⟨_, _, rfl, rfl, rfl⟩ rfl rfl ?_
                refine Run.one (ok_move rfl rfl) ⟨_, _, rfl, rfl, rfl⟩ rfl rfl ?_
                refine Run.oneB (ok_not rfl rfl) ⟨_, _, rfl, rfl, rfl⟩ rfl rfl (fun h10_34 => ?_) (fun h10_34 => ?_)
                · refine Run.one (ok_move rfl rfl) ⟨_, _, rfl, rfl, rfl⟩ rfl rfl ?_
                  refine Run.one (ok_load_agg rfl rfl rfl rfl) ⟨_, _, rfl, rfl, rfl⟩ rfl rfl ?_
                  refine Run.one (ok_call rfl rfl (rqOf_spec (n := 1) (q := 1) (by decide) (by decide))) ⟨_, _, rfl, rfl, rfl⟩ rfl rfl ?_
                  refine Run.one (ok_call rfl rfl (rqcmp_spec (by omega))) ⟨_, _, rfl, rfl, rfl⟩ rfl rfl ?_
                  refine Run.one (ok_cmp rfl rfl rfl rfl) ⟨_, _, rfl, rfl, rfl⟩ rfl rfl ?_
                  refine Run.one ((ok_pick rfl rfl rfl).sub (bool_eq (c := decide (¬ (x1 = x2 ∧ y1 = y2) ∧ 1 < t)) (by first | exact decide_eq_decide.2 ⟨fun h => ⟨by rw [Bool.not_eq_true'] at h10_34; exact of_decide_eq_false h10_34, tri_gt_iff.1 h⟩, fun h => tri_gt_iff.2 h.2⟩ | exact (decide_eq_false fun h => h.1 (by simpa using h10_34)).symm))) ⟨_, _, rfl, rfl, rfl⟩ rfl rfl ?_
                  refine Run.one ((ok_eql_bool rfl rfl rfl Tryz.isBool4).sub (bool_eq (c := true) (by simp))) ⟨_, _, rfl, rfl, rfl⟩ rfl rfl ?_
                  refine Run.one (ok_pick rfl rfl rfl) rfl rfl rfl ?_
                  refine Run.one (ok_move rfl rfl) rfl rfl rfl ?_
                  refine Run.one (ok_call rfl rfl wakes9_spec) ⟨_, _, rfl, rfl, rfl⟩ rfl rfl ?_
                  refine Run.one (ok_pick rfl rfl rfl) rfl rfl rfl ?_
                  refine Run.one (ok_assign rfl rfl) rfl rfl rfl ?_
                  refine Run.nil ?_
                  refine Run.nil ?_
                  refine T_ret ?_
                  exact ⟨_, [], .one (.tmp rfl), List.nil_sublist _, rfl, rfl⟩
                · refine Run.one (ok_move rfl rfl) ⟨_, _, rfl, rfl, rfl⟩ rfl rfl ?_
                  refine Run.no ⟨_, _, rfl, rfl, rfl⟩ rfl rfl ?_
                  refine Run.no ⟨_, _, rfl, rfl, rfl⟩ rfl rfl ?_
                  refine Run.no ⟨_, _, rfl, rfl, rfl⟩ rfl rfl ?_
                  refine Run.no ⟨_, _, rfl, rfl, rfl⟩ rfl rfl ?_
                  refine Run.one ((ok_pick rfl rfl rfl).sub (bool_eq (c := decide (¬ (x1 = x2 ∧ y1 = y2) ∧ 1 < t)) (by first | exact decide_eq_decide.2 ⟨fun h => ⟨by rw [Bool.not_eq_true'] at h10_34; exact of_decide_eq_false h10_34, tri_gt_iff.1 h⟩, fun h => tri_gt_iff.2 h.2⟩ | exact (decide_eq_false fun h => h.1 (by simpa using h10_34)).symm))) ⟨_, _, rfl, rfl, rfl⟩ rfl rfl ?_
                  refine Run.one ((ok_eql_bool rfl rfl rfl Tryz.isBool4).sub (bool_eq (c := true) (by simp))) ⟨_, _, rfl, rfl, rfl⟩ rfl rfl ?_
                  refine Run.one (ok_pick rfl rfl rfl) rfl rfl rfl ?_
                  refine Run.one (ok_move rfl rfl) rfl rfl rfl ?_
                  refine Run.one (ok_call rfl rfl wakes9_spec) ⟨_, _, rfl, rfl, rfl⟩ rfl rfl ?_
                  refine Run.one (ok_pick rfl rfl rfl) rfl rfl rfl ?_
                  refine Run.one (ok_assign rfl rfl) rfl rfl rfl ?_
                  refine Run.nil ?_
                  refine Run.nil ?_
                  refine T_ret ?_
                  exact ⟨_, [], .one (.tmp rfl), List.nil_sublist _, rfl, rfl⟩
              · have k10_14 := of_decide_eq_false h10_14
                refine Run.one (ok_move rfl rfl) ⟨_, _, rfl, rfl, rfl⟩ rfl rfl ?_
                refine Run.no ⟨_, _, rfl, rfl, rfl⟩ rfl rfl ?_
                refine Run.no ⟨_, _, rfl, rfl, rfl⟩ rfl rfl ?_
                refine Run.one ((ok_pick rfl rfl rfl).sub (bool_eq (c := decide ((0 < t ∧ t < 1) ∧ ¬ (x1 = x2 ∧ y1 = y2))) (by first | exact (decide_not.symm.trans (decide_eq_decide.2 ⟨fun h => ⟨k10_14, h⟩, fun h => h.2⟩)) | exact (decide_eq_false fun h => k10_14 h.1).symm | exact (decide_eq_false fun h => k9_2 (tri_gt_iff.2 h.1.1)).symm))) ⟨_, _, rfl, rfl, rfl⟩ rfl rfl ?_
                refine Run.one ((ok_eql_bool rfl rfl rfl Tryz.isBool4).sub (bool_eq (c := true) (by simp))) ⟨_, _, rfl, rfl, rfl⟩ rfl rfl ?_
                refine Run.one (ok_pick rfl rfl rfl) rfl rfl rfl ?_
                refine Run.one (ok_move rfl rfl) rfl rfl rfl ?_
                refine Run.one (ok_load_agg rfl rfl rfl rfl) ⟨_, _, rfl, rfl, rfl⟩ rfl rfl ?_
                refine Run.one (ok_load_agg rfl rfl rfl rfl) ⟨_, _, rfl, rfl, rfl⟩ rfl rfl ?_
                refine Run.one (ok_load_own_agg 0 rfl rfl rfl rfl rfl) ⟨_, _, rfl, rfl, rfl⟩ rfl rfl ?_
                refine Run.one ((ok_call rfl rfl (sSide_spec (by unfold cap; omega))).sub (int_eq (n := 0) (by rw [crs_at]; rfl))) ⟨_, _, rfl, rfl, rfl⟩ rfl rfl ?_
                refine Run.one (ok_cmp rfl rfl rfl rfl) ⟨_, _, rfl, rfl, rfl⟩ rfl rfl ?_
                refine Run.one (ok_pick rfl rfl rfl) rfl rfl rfl ?_
                refine Run.one (ok_move rfl rfl) rfl rfl rfl ?_
                refine Run.one (ok_load_agg rfl rfl rfl rfl) ⟨_, _, rfl, rfl, rfl⟩ rfl rfl ?_
                refine Run.one (ok_load_agg rfl rfl rfl rfl) ⟨_, _, rfl, rfl, rfl⟩ rfl rfl ?_
                refine Run.one (ok_load_own_agg 0 rfl rfl rfl rfl rfl) ⟨_, _, rfl, rfl, rfl⟩ rfl rfl ?_
                refine Run.one ((ok_call rfl rfl (sStraight_spec (by unfold cap; omega))).sub (bool_eq (c := decide (¬ (x1 = x2 ∧ y1 = y2) ∧ 1 < t)) (decide_eq_decide.2 straight_at))) ⟨_, _, rfl, rfl, rfl⟩ rfl rfl ?_
                refine Run.one (ok_move rfl rfl) ⟨_, _, rfl, rfl, rfl⟩ rfl rfl ?_
                refine Run.oneB (ok_not rfl rfl) ⟨_, _, rfl, rfl, rfl⟩ rfl rfl (fun h10_34 => ?_) (fun h10_34 => ?_)
                · refine Run.one (ok_move rfl rfl) ⟨_, _, rfl, rfl, rfl⟩ rfl rfl ?_
                  refine Run.one (ok_load_agg rfl rfl rfl rfl) ⟨_, _, rfl, rfl, rfl⟩ rfl rfl ?_
                  refine Run.one (ok_call rfl rfl (rqOf_spec (n := 1) (q := 1) (by decide) (by decide))) ⟨_, _, rfl, rfl, rfl⟩ rfl rfl ?_
                  refine Run.one (ok_call rfl rfl (rqcmp_spec (by omega))) ⟨_, _, rfl, rfl, rfl⟩ rfl rfl ?_
                  refine Run.one (ok_cmp rfl rfl rfl rfl) ⟨_, _, rfl, rfl, rfl⟩ rfl rfl ?_
                  refine Run.one ((ok_pick rfl rfl rfl).sub (bool_eq (c := decide (¬ (x1 = x2 ∧ y1 = y2) ∧ 1 < t)) (by first | exact decide_eq_decide.2 ⟨fun h => ⟨by rw [Bool.not_eq_true'] at h10_34; exact of_decide_eq_false h10_34, tri_gt_iff.1 h⟩, fun h => tri_gt_iff.2 h.2⟩ | exact (decide_eq_false fun h => h.1 (by simpa using h10_34)).symm))) ⟨_, _, rfl, rfl, rfl⟩ rfl rfl ?_
                  refine Run.one ((ok_eql_bool rfl rfl rfl Tryz.isBool4).sub (bool_eq (c := true) (by simp))) ⟨_, _, rfl, rfl, rfl⟩ rfl rfl ?_
                  refine Run.one (ok_pick rfl rfl rfl) rfl rfl rfl ?_
                  refine Run.one (ok_move rfl rfl) rfl rfl rfl ?_
                  refine Run.one (ok_call rfl rfl wakes9_spec) ⟨_, _, rfl, rfl, rfl⟩ rfl rfl ?_
                  refine Run.one (ok_pick rfl rfl rfl) rfl rfl rfl ?_
                  refine Run.one (ok_assign rfl rfl) rfl rfl rfl ?_
                  refine Run.nil ?_
                  refine Run.nil ?_
                  refine T_ret ?_
                  exact ⟨_, [], .one (.tmp rfl), List.nil_sublist _, rfl, rfl⟩
                · refine Run.one (ok_move rfl rfl) ⟨_, _, rfl, rfl, rfl⟩ rfl rfl ?_
                  refine Run.no ⟨_, _, rfl, rfl, rfl⟩ rfl rfl ?_
                  refine Run.no ⟨_, _, rfl, rfl, rfl⟩ rfl rfl ?_
                  refine Run.no ⟨_, _, rfl, rfl, rfl⟩ rfl rfl ?_
                  refine Run.no ⟨_, _, rfl, rfl, rfl⟩ rfl rfl ?_
                  refine Run.one ((ok_pick rfl rfl rfl).sub (bool_eq (c := decide (¬ (x1 = x2 ∧ y1 = y2) ∧ 1 < t)) (by first | exact decide_eq_decide.2 ⟨fun h => ⟨by rw [Bool.not_eq_true'] at h10_34; exact of_decide_eq_false h10_34, tri_gt_iff.1 h⟩, fun h => tri_gt_iff.2 h.2⟩ | exact (decide_eq_false fun h => h.1 (by simpa using h10_34)).symm))) ⟨_, _, rfl, rfl, rfl⟩ rfl rfl ?_
                  refine Run.one ((ok_eql_bool rfl rfl rfl Tryz.isBool4).sub (bool_eq (c := true) (by simp))) ⟨_, _, rfl, rfl, rfl⟩ rfl rfl ?_
                  refine Run.one (ok_pick rfl rfl rfl) rfl rfl rfl ?_
                  refine Run.one (ok_move rfl rfl) rfl rfl rfl ?_
                  refine Run.one (ok_call rfl rfl wakes9_spec) ⟨_, _, rfl, rfl, rfl⟩ rfl rfl ?_
                  refine Run.one (ok_pick rfl rfl rfl) rfl rfl rfl ?_
                  refine Run.one (ok_assign rfl rfl) rfl rfl rfl ?_
                  refine Run.nil ?_
                  refine Run.nil ?_
                  refine T_ret ?_
                  exact ⟨_, [], .one (.tmp rfl), List.nil_sublist _, rfl, rfl⟩
            · have k10_4 := of_decide_eq_false h10_4
              refine Run.one (ok_move rfl rfl) rfl rfl rfl ?_
              refine Run.one (ok_move rfl rfl) ⟨_, _, rfl, rfl, rfl⟩ rfl rfl ?_
              refine Run.one ((ok_pick rfl rfl rfl).sub (bool_eq (c := decide ((0 ≤ t ∧ t ≤ 1) ∨ (x1 = x2 ∧ y1 = y2))) (by first | exact (decide_eq_true (.inl k10_4)).symm | exact decide_eq_decide.2 ⟨.inr, fun h => h.resolve_left k10_4⟩ | exact decide_eq_decide.2 ⟨.inr, fun h => h.resolve_left fun h => k7_2 (tri_ge_iff.2 h.1)⟩))) rfl rfl rfl ?_
              refine Run.one ((ok_eql_bool rfl rfl rfl Tryz.isBool4).sub (bool_eq (c := true) (by simp))) rfl rfl rfl ?_
              refine Run.one (ok_move rfl rfl) rfl rfl rfl ?_
              refine Run.one (ok_load_agg rfl rfl rfl rfl) ⟨_, _, rfl, rfl, rfl⟩ rfl rfl ?_
              refine Run.one (ok_load_agg rfl rfl rfl rfl) ⟨_, _, rfl, rfl, rfl⟩ rfl rfl ?_
              refine Run.one (ok_load_own_agg 0 rfl rfl rfl rfl rfl) ⟨_, _, rfl, rfl, rfl⟩ rfl rfl ?_
              refine Run.one ((ok_call rfl rfl (sWithin_spec (by unfold cap; omega))).sub (bool_eq (c := decide ((0 < t ∧ t < 1) ∧ ¬ (x1 = x2 ∧ y1 = y2))) (decide_eq_decide.2 within_at))) ⟨_, _, rfl, rfl, rfl⟩ rfl rfl ?_
              refine Run.oneB (ok_move rfl rfl) ⟨_, _, rfl, rfl, rfl⟩ rfl rfl (fun h10_14 => ?_) (fun h10_14 => ?_)
              · have k10_14 := of_decide_eq_true h10_14
                refine Run.one (ok_move rfl rfl) ⟨_, _, rfl, rfl, rfl⟩ rfl rfl ?_
                refine Run.one (ok_move rfl rfl) ⟨_, _, rfl, rfl, rfl⟩ rfl rfl ?_
                refine Run.one (ok_not rfl rfl) ⟨_, _, rfl, rfl, rfl⟩ rfl rfl ?_
                refine Run.one ((ok_pick rfl rfl rfl).sub (bool_eq (c := decide ((0 < t ∧ t < 1) ∧ ¬ (x1 = x2 ∧ y1 = y2))) (by first | exact (decide_not.symm.trans (decide_eq_decide.2 ⟨fun h => ⟨k10_14, h⟩, fun h => h.2⟩)) | exact (decide_eq_false fun h => k10_14 h.1).symm | exact (decide_eq_false fun h => k9_2 (tri_gt_iff.2 h.1.1)).symm))) ⟨_, _, rfl, rfl, rfl⟩ rfl rfl ?_
                refine Run.one ((ok_eql_bool rfl rfl rfl Tryz.isBool4).sub (bool_eq (c := true) (by simp))) ⟨_, _, rfl, rfl, rfl⟩ rfl rfl ?_
                refine Run.one (ok_pick rfl rfl rfl) rfl rfl rfl ?_
                refine Run.one (ok_move rfl rfl) rfl rfl rfl ?_
                refine Run.one (ok_load_agg rfl rfl rfl rfl) ⟨_, _, rfl, rfl, rfl⟩ rfl rfl ?_
                refine Run.one (ok_load_agg rfl rfl rfl rfl) ⟨_, _, rfl, rfl, rfl⟩ rfl rfl ?_
                refine Run.one (ok_load_own_agg 0 rfl rfl rfl rfl rfl) ⟨_, _, rfl, rfl, rfl⟩ rfl rfl ?_
                refine Run.one ((ok_call rfl rfl (sSide_spec (by unfold cap; omega))).sub (int_eq (n := 0) (by rw [crs_at]; rfl))) ⟨_, _, rfl, rfl, rfl⟩ rfl rfl ?_
                refine Run.one (ok_cmp rfl rfl rfl rfl) ⟨_, _, rfl, rfl, rfl⟩ rfl rfl ?_
                refine Run.one (ok_pick rfl rfl rfl) rfl rfl rfl ?_
                refine Run.one (ok_move rfl rfl) rfl rfl rfl ?_
                refine Run.one (ok_load_agg rfl rfl rfl rfl) ⟨_, _, rfl, rfl, rfl⟩ rfl rfl ?_
                refine Run.one (ok_load_agg rfl rfl rfl rfl) ⟨_, _, rfl, rfl, rfl⟩ rfl rfl ?_
                refine Run.one (ok_load_own_agg 0 rfl rfl rfl rfl rfl) ⟨_, _, rfl, rfl, rfl⟩ rfl rfl ?_
                refine Run.one ((ok_call rfl rfl (sStraight_spec (by unfold cap; omega))).sub (bool_eq (c := decide (¬ (x1 = x2 ∧ y1 = y2) ∧ 1 < t)) (decide_eq_decide.2 straight_at))) ⟨_, _, rfl, rfl, rfl⟩ rfl rfl ?_
                refine Run.one (ok_move rfl rfl) ⟨_, _, rfl, rfl, rfl⟩ rfl rfl ?_
                refine Run.oneB (ok_not rfl rfl) ⟨_, _, rfl, rfl, rfl⟩ rfl rfl (fun h10_34 => ?_) (fun h10_34 => ?_)
                · refine Run.one (ok_move rfl rfl) ⟨_, _, rfl, rfl, rfl⟩ rfl rfl ?_
                  refine Run.one (ok_load_agg rfl rfl rfl rfl) ⟨_, _, rfl, rfl, rfl⟩ rfl rfl ?_
                  refine Run.one (ok_call rfl rfl (rqOf_spec (n := 1) (q := 1) (by decide) (by decide))) ⟨_, _, rfl, rfl, rfl⟩ rfl rfl ?_
                  refine Run.one (ok_call rfl rfl (rqcmp_spec (by omega))) ⟨_, _, rfl, rfl, rfl⟩ rfl rfl ?_
                  refine Run.one (ok_cmp rfl rfl rfl rfl) ⟨_, _, rfl, rfl, rfl⟩ rfl rfl ?_
                  refine Run.one ((ok_pick rfl rfl rfl).sub (bool_eq (c := decide (¬ (x1 = x2 ∧ y1 = y2) ∧ 1 < t)) (by first | exact decide_eq_decide.2 ⟨fun h => ⟨by rw [Bool.not_eq_true'] at h10_34; exact of_decide_eq_false h10_34, tri_gt_iff.1 h⟩, fun h => tri_gt_iff.2 h.2⟩ | exact (decide_eq_false fun h => h.1 (by simpa using h10_34)).symm))) ⟨_, _, rfl, rfl, rfl⟩ rfl rfl ?_
                  refine Run.one ((ok_eql_bool rfl rfl rfl Tryz.isBool4).sub (bool_eq (c := true) (by simp))) ⟨_, _, rfl, rfl, rfl⟩ rfl rfl ?_
                  refine Run.one (ok_pick rfl rfl rfl) rfl rfl rfl ?_
                  refine Run.one (ok_move rfl rfl) rfl rfl rfl ?_
                  refine Run.one (ok_call rfl rfl wakes9_spec) ⟨_, _, rfl, rfl, rfl⟩ rfl rfl ?_
                  refine Run.one (ok_pick rfl rfl rfl) rfl rfl rfl ?_
                  refine Run.one (ok_assign rfl rfl) rfl rfl rfl ?_
                  refine Run.nil ?_
                  refine Run.nil ?_
                  refine T_ret ?_
                  exact ⟨_, [], .one (.tmp rfl), List.nil_sublist _, rfl, rfl⟩
                · refine Run.one (ok_move rfl rfl) ⟨_, _, rfl, rfl, rfl⟩ rfl rfl ?_
                  refine Run.no ⟨_, _, rfl, rfl, rfl⟩ rfl rfl ?_
                  refine Run.no ⟨_, _, rfl, rfl, rfl⟩ rfl rfl ?_
                  refine Run.no ⟨_, _, rfl, rfl, rfl⟩ rfl rfl ?_
                  refine Run.no ⟨_, _, rfl, rfl, rfl⟩ rfl rfl ?_
                  refine Run.one ((ok_pick rfl rfl rfl).sub (bool_eq (c := decide (¬ (x1 = x2 ∧ y1 = y2) ∧ 1 < t)) (by first | exact decide_eq_decide.2 ⟨fun h => ⟨by rw [Bool.not_eq_true'] at h10_34; exact of_decide_eq_false h10_34, tri_gt_iff.1 h⟩, fun h => tri_gt_iff.2 h.2⟩ | exact (decide_eq_false fun h => h.1 (by simpa using h10_34)).symm))) ⟨_, _, rfl, rfl, rfl⟩ rfl rfl ?_
                  refine Run.one ((ok_eql_bool rfl rfl rfl Tryz.isBool4).sub (bool_eq (c := true) (by simp))) ⟨_, _, rfl, rfl, rfl⟩ rfl rfl ?_
                  refine Run.one (ok_pick rfl rfl rfl) rfl rfl rfl ?_
                  refine Run.one (ok_move rfl rfl) rfl rfl rfl ?_
                  refine Run.one (ok_call rfl rfl wakes9_spec) ⟨_, _, rfl, rfl, rfl⟩ rfl rfl ?_
                  refine Run.one (ok_pick rfl rfl rfl) rfl rfl rfl ?_
                  refine Run.one (ok_assign rfl rfl) rfl rfl rfl ?_
                  refine Run.nil ?_
                  refine Run.nil ?_
                  refine T_ret ?_
                  exact ⟨_, [], .one (.tmp rfl), List.nil_sublist _, rfl, rfl⟩
              · have k10_14 := of_decide_eq_false h10_14
                refine Run.one (ok_move rfl rfl) ⟨_, _, rfl, rfl, rfl⟩ rfl rfl ?_
                refine Run.no ⟨_, _, rfl, rfl, rfl⟩ rfl rfl ?_
                refine Run.no ⟨_, _, rfl, rfl, rfl⟩ rfl rfl ?_
                refine Run.one ((ok_pick rfl rfl rfl).sub (bool_eq (c := decide ((0 < t ∧ t < 1) ∧ ¬ (x1 = x2 ∧ y1 = y2))) (by first | exact (decide_not.symm.trans (decide_eq_decide.2 ⟨fun h => ⟨k10_14, h⟩, fun h => h.2⟩)) | exact (decide_eq_false fun h => k10_14 h.1).symm | exact (decide_eq_false fun h => k9_2 (tri_gt_iff.2 h.1.1)).symm))) ⟨_, _, rfl, rfl, rfl⟩ rfl rfl ?_
                refine Run.one ((ok_eql_bool rfl rfl rfl Tryz.isBool4).sub (bool_eq (c := true) (by simp))) ⟨_, _, rfl, rfl, rfl⟩ rfl rfl ?_
                refine Run.one (ok_pick rfl rfl rfl) rfl rfl rfl ?_
                refine Run.one (ok_move rfl rfl) rfl rfl rfl ?_
                refine Run.one (ok_load_agg rfl rfl rfl rfl) ⟨_, _, rfl, rfl, rfl⟩ rfl rfl ?_
                refine Run.one (ok_load_agg rfl rfl rfl rfl) ⟨_, _, rfl, rfl, rfl⟩ rfl rfl ?_
                refine Run.one (ok_load_own_agg 0 rfl rfl rfl rfl rfl) ⟨_, _, rfl, rfl, rfl⟩ rfl rfl ?_
                refine Run.one ((ok_call rfl rfl (sSide_spec (by unfold cap; omega))).sub (int_eq (n := 0) (by rw [crs_at]; rfl))) ⟨_, _, rfl, rfl, rfl⟩ rfl rfl ?_
                refine Run.one (ok_cmp rfl rfl rfl rfl) ⟨_, _, rfl, rfl, rfl⟩ rfl rfl ?_
                refine Run.one (ok_pick rfl rfl rfl) rfl rfl rfl ?_
                refine Run.one (ok_move rfl rfl) rfl rfl rfl ?_
                refine Run.one (ok_load_agg rfl rfl rfl rfl) ⟨_, _, rfl, rfl, rfl⟩ rfl rfl ?_
                refine Run.one (ok_load_agg rfl rfl rfl rfl) ⟨_, _, rfl, rfl, rfl⟩ rfl rfl ?_
                refine Run.one (ok_load_own_agg 0 rfl rfl rfl rfl rfl) ⟨_, _, rfl, rfl, rfl⟩ rfl rfl ?_
                refine Run.one ((ok_call rfl rfl (sStraight_spec (by unfold cap; omega))).sub (bool_eq (c := decide (¬ (x1 = x2 ∧ y1 = y2) ∧ 1 < t)) (decide_eq_decide.2 straight_at))) ⟨_, _, rfl, rfl, rfl⟩ rfl rfl ?_
                refine Run.one (ok_move rfl rfl) ⟨_, _, rfl, rfl, rfl⟩ rfl rfl ?_
                refine Run.oneB (ok_not rfl rfl) ⟨_, _, rfl, rfl, rfl⟩ rfl rfl (fun h10_34 => ?_) (fun h10_34 => ?_)
                · refine Run.one (ok_move rfl rfl) ⟨_, _, rfl, rfl, rfl⟩ rfl rfl ?_
                  refine Run.one (ok_load_agg rfl rfl rfl rfl) ⟨_, _, rfl, rfl, rfl⟩ rfl rfl ?_
                  refine Run.one (ok_call rfl rfl (rqOf_spec (n := 1) (q := 1) (by decide) (by decide))) ⟨_, _, rfl, rfl, rfl⟩ rfl rfl ?_
                  refine Run.one (ok_call rfl rfl (rqcmp_spec (by omega))) ⟨_, _, rfl, rfl, rfl⟩ rfl rfl ?_
                  refine Run.one (ok_cmp rfl rfl rfl rfl) ⟨_, _, rfl, rfl, rfl⟩ rfl rfl ?_
                  refine Run.one ((ok_pick rfl rfl rfl).sub (bool_eq (c := decide (¬ (x1 = x2 ∧ y1 = y2) ∧ 1 < t)) (by first | exact decide_eq_decide.2 ⟨fun h => ⟨by rw [Bool.not_eq_true'] at h10_34; exact of_decide_eq_false h10_34, tri_gt_iff.1 h⟩, fun h => tri_gt_iff.2 h.2⟩ | exact (decide_eq_false fun h => h.1 (by simpa using h10_34)).symm))) ⟨_, _, rfl, rfl, rfl⟩ rfl rfl ?_
                  refine Run.one ((ok_eql_bool rfl rfl rfl Tryz.isBool4).sub (bool_eq (c := true) (by simp))) ⟨_, _, rfl, rfl, rfl⟩ rfl rfl ?_
                  refine Run.one (ok_pick rfl rfl rfl) rfl rfl rfl ?_
                  refine Run.one (ok_move rfl rfl) rfl rfl rfl ?_
                  refine Run.one (ok_call rfl rfl wakes9_spec) ⟨_, _, rfl, rfl, rfl⟩ rfl rfl ?_
                  refine Run.one (ok_pick rfl rfl rfl) rfl rfl rfl ?_
                  refine Run.one (ok_assign rfl rfl) rfl rfl rfl ?_
                  refine Run.nil ?_
                  refine Run.nil ?_
                  refine T_ret ?_
                  exact ⟨_, [], .one (.tmp rfl), List.nil_sublist _, rfl, rfl⟩
                · refine Run.one (ok_move rfl rfl) ⟨_, _, rfl, rfl, rfl⟩ rfl rfl ?_
                  refine Run.no ⟨_, _, rfl, rfl, rfl⟩ rfl rfl ?_
                  refine Run.no ⟨_, _, rfl, rfl, rfl⟩ rfl rfl ?_
                  refine Run.no ⟨_, _, rfl, rfl, rfl⟩ rfl rfl ?_
                  refine Run.no ⟨_, _, rfl, rfl, rfl⟩ rfl rfl ?_
                  refine Run.one ((ok_pick rfl rfl rfl).sub (bool_eq (c := decide (¬ (x1 = x2 ∧ y1 = y2) ∧ 1 < t)) (by first | exact decide_eq_decide.2 ⟨fun h => ⟨by rw [Bool.not_eq_true'] at h10_34; exact of_decide_eq_false h10_34, tri_gt_iff.1 h⟩, fun h => tri_gt_iff.2 h.2⟩ | exact (decide_eq_false fun h => h.1 (by simpa using h10_34)).symm))) ⟨_, _, rfl, rfl, rfl⟩ rfl rfl ?_
                  refine Run.one ((ok_eql_bool rfl rfl rfl Tryz.isBool4).sub (bool_eq (c := true) (by simp))) ⟨_, _, rfl, rfl, rfl⟩ rfl rfl ?_
                  refine Run.one (ok_pick rfl rfl rfl) rfl rfl rfl ?_
                  refine Run.one (ok_move rfl rfl) rfl rfl rfl ?_
                  refine Run.one (ok_call rfl rfl wakes9_spec) ⟨_, _, rfl, rfl, rfl⟩ rfl rfl ?_
                  refine Run.one (ok_pick rfl rfl rfl) rfl rfl rfl ?_
                  refine Run.one (ok_assign rfl rfl) rfl rfl rfl ?_
                  refine Run.nil ?_
                  refine Run.nil ?_
                  refine T_ret ?_
                  exact ⟨_, [], .one (.tmp rfl), List.nil_sublist _, rfl, rfl⟩
          · have k9_2 := of_decide_eq_false h9_2
            refine Run.one (ok_move rfl rfl) rfl rfl rfl ?_
            refine Run.no ⟨_, _, rfl, rfl, rfl⟩ rfl rfl ?_
            refine Run.no ⟨_, _, rfl, rfl, rfl⟩ rfl rfl ?_
            refine Run.no ⟨_, _, rfl, rfl, rfl⟩ rfl rfl ?_
            refine Run.no ⟨_, _, rfl, rfl, rfl⟩ rfl rfl ?_
            refine Run.one (ok_pick rfl rfl rfl) rfl rfl rfl ?_
            refine Run.one (ok_assign rfl rfl) rfl rfl rfl ?_
            refine Run.nil ?_
            refine Run.nil ?_
            refine T_drawS 47 (by kernel_rfl) ?_
            refine Run.one (ok_load_agg rfl rfl rfl rfl) rfl rfl rfl ?_
            refine Run.one (ok_load_agg rfl rfl rfl rfl) rfl rfl rfl ?_
            refine Run.one (ok_load_own_agg 0 rfl rfl rfl rfl rfl) rfl rfl rfl ?_
            refine Run.one ((ok_call rfl rfl (sOn_spec (by unfold cap; omega))).sub (bool_eq (c := decide ((0 ≤ t ∧ t ≤ 1) ∨ (x1 = x2 ∧ y1 = y2))) (decide_eq_decide.2 onP_at))) rfl rfl rfl ?_
            refine Run.oneB (ok_move rfl rfl) rfl rfl rfl (fun h10_4 => ?_) (fun h10_4 => ?_)
            · have k10_4 := of_decide_eq_true h10_4
              refine Run.one (ok_move rfl rfl) rfl rfl rfl ?_
              refine Run.no ⟨_, _, rfl, rfl, rfl⟩ rfl rfl ?_
              refine Run.one ((ok_pick rfl rfl rfl).sub (bool_eq (c := decide ((0 ≤ t ∧ t ≤ 1) ∨ (x1 = x2 ∧ y1 = y2))) (by first | exact (decide_eq_true (.inl k10_4)).symm | exact decide_eq_decide.2 ⟨.inr, fun h => h.resolve_left k10_4⟩ | exact decide_eq_decide.2 ⟨.inr, fun h => h.resolve_left fun h => k7_2 (tri_ge_iff.2 h.1)⟩))) rfl rfl rfl ?_
              refine Run.one ((ok_eql_bool rfl rfl rfl Tryz.isBool4).sub (bool_eq (c := true) (by simp))) rfl rfl rfl ?_
              refine Run.one (ok_move rfl rfl) rfl rfl rfl ?_
              refine Run.one (ok_load_agg rfl rfl rfl rfl) ⟨_, _, rfl, rfl, rfl⟩ rfl rfl ?_
              refine Run.one (ok_load_agg rfl rfl rfl rfl) ⟨_, _, rfl, rfl, rfl⟩ rfl rfl ?_
              refine Run.one (ok_load_own_agg 0 rfl rfl rfl rfl rfl) ⟨_, _, rfl, rfl, rfl⟩ rfl rfl ?_
              refine Run.one ((ok_call rfl rfl (sWithin_spec (by unfold cap; omega))).sub (bool_eq (c := decide ((0 < t ∧ t < 1) ∧ ¬ (x1 = x2 ∧ y1 = y2))) (decide_eq_decide.2 within_at))) ⟨_, _, rfl, rfl, rfl⟩ rfl rfl ?_
              refine Run.one (ok_move rfl rfl) ⟨_, _, rfl, rfl, rfl⟩ rfl rfl ?_
              refine Run.one (ok_move rfl rfl) ⟨_, _, rfl, rfl, rfl⟩ rfl rfl ?_
              refine Run.no ⟨_, _, rfl, rfl, rfl⟩ rfl rfl ?_
              refine Run.no ⟨_, _, rfl, rfl, rfl⟩ rfl rfl ?_
              refine Run.one ((ok_pick rfl rfl rfl).sub (bool_eq (c := decide ((0 < t ∧ t < 1) ∧ ¬ (x1 = x2 ∧ y1 = y2))) (by first | exact (decide_not.symm.trans (decide_eq_decide.2 ⟨fun h => ⟨k10_14, h⟩, fun h => h.2⟩)) | exact (decide_eq_false fun h => k10_14 h.1).symm | exact (decide_eq_false fun h => k9_2 (tri_gt_iff.2 h.1.1)).symm))) ⟨_, _, rfl, rfl, rfl⟩ rfl rfl ?_
              refine Run.one ((ok_eql_bool rfl rfl rfl Tryz.isBool4).sub (bool_eq (c := true) (by simp))) ⟨_, _, rfl, rfl, rfl⟩ rfl rfl ?_
              refine Run.one (ok_pick rfl rfl rfl) rfl rfl rfl ?_
              refine Run.one (ok_move rfl rfl) rfl rfl rfl ?_
              refine Run.one (ok_load_agg rfl rfl rfl rfl) ⟨_, _, rfl, rfl, rfl⟩ rfl rfl ?_
              refine Run.one (ok_load_agg rfl rfl rfl rfl) ⟨_, _, rfl, rfl, rfl⟩ rfl rfl ?_
              refine Run.one (ok_load_own_agg 0 rfl rfl rfl rfl rfl) ⟨_, _, rfl, rfl, rfl⟩ rfl rfl ?_
              refine Run.one ((ok_call rfl rfl (sSide_spec (by unfold cap; omega))).sub (int_eq (n := 0) (by rw [crs_at]; rfl))) ⟨_, _, rfl, rfl, rfl⟩ rfl rfl ?_
              refine Run.one (ok_cmp rfl rfl rfl rfl) ⟨_, _, rfl, rfl, rfl⟩ rfl rfl ?_
              refine Run.one (ok_pick rfl rfl rfl) rfl rfl rfl ?_
              refine Run.one (ok_move rfl rfl) rfl rfl rfl ?_
              refine Run.one (ok_load_agg rfl rfl rfl rfl) ⟨_, _, rfl, rfl, rfl⟩ rfl rfl ?_
              refine Run.one (ok_load_agg rfl rfl rfl rfl) ⟨_, _, rfl, rfl, rfl⟩ rfl rfl ?_
              refine Run.one (ok_load_own_agg 0 rfl rfl rfl rfl rfl) ⟨_, _, rfl, rfl, rfl⟩ rfl rfl ?_
              refine Run.one ((ok_call rfl rfl (sStraight_spec (by unfold cap; omega))).sub (bool_eq (c := decide (¬ (x1 = x2 ∧ y1 = y2) ∧ 1 < t)) (decide_eq_decide.2 straight_at))) ⟨_, _, rfl, rfl, rfl⟩ rfl rfl ?_
              refine Run.one (ok_move rfl rfl) ⟨_, _, rfl, rfl, rfl⟩ rfl rfl ?_
              refine Run.oneB (ok_not rfl rfl) ⟨_, _, rfl, rfl, rfl⟩ rfl rfl (fun h10_34 => ?_) (fun h10_34 => ?_)
              · refine Run.one (ok_move rfl rfl) ⟨_, _, rfl, rfl, rfl⟩ rfl rfl ?_
                refine Run.one (ok_load_agg rfl rfl rfl rfl) ⟨_, _, rfl, rfl, rfl⟩ rfl rfl ?_
                refine Run.one (ok_call rfl rfl (rqOf_spec (n := 1) (q := 1) (by decide) (by decide))) ⟨_, _, rfl, rfl, rfl⟩ rfl rfl ?_
                refine Run.one (ok_call rfl rfl (rqcmp_spec (by omega))) ⟨_, _, rfl, rfl, rfl⟩ rfl rfl ?_
                refine Run.one (ok_cmp rfl rfl rfl rfl) ⟨_, _, rfl, rfl, rfl⟩ rfl rfl ?_
                refine Run.one ((ok_pick rfl rfl rfl).sub (bool_eq (c := decide (¬ (x1 = x2 ∧ y1 = y2) ∧ 1 < t)) (by first | exact decide_eq_decide.2 ⟨fun h => ⟨by rw [Bool.not_eq_true'] at h10_34; exact of_decide_eq_false h10_34, tri_gt_iff.1 h⟩, fun h => tri_gt_iff.2 h.2⟩ | exact (decide_eq_false fun h => h.1 (by simpa using h10_34)).symm))) ⟨_, _, rfl, rfl, rfl⟩ rfl rfl ?_
                refine Run.one ((ok_eql_bool rfl rfl rfl Tryz.isBool4).sub (bool_eq (c := true) (by simp))) ⟨_, _, rfl, rfl, rfl⟩ rfl rfl ?_
                refine Run.one (ok_pick rfl rfl rfl) rfl rfl rfl ?_
                refine Run.one (ok_move rfl rfl) rfl rfl rfl ?_
                refine Run.one (ok_call rfl rfl wakes9_spec) ⟨_, _, rfl, rfl, rfl⟩ rfl rfl ?_
                refine Run.one (ok_pick rfl rfl rfl) rfl rfl rfl ?_
                refine Run.one (ok_assign rfl rfl) rfl rfl rfl ?_
                refine Run.nil ?_
                refine Run.nil ?_
                refine T_ret ?_
                exact ⟨_, [], .one (.tmp rfl), List.nil_sublist _, rfl, rfl⟩
              · refine Run.one (ok_move rfl rfl) ⟨_, _, rfl, rfl, rfl⟩ rfl rfl ?_
                refine Run.no ⟨_, _, rfl, rfl, rfl⟩ rfl rfl ?_
                refine Run.no ⟨_, _, rfl, rfl, rfl⟩ rfl rfl ?_
                refine Run.no ⟨_, _, rfl, rfl, rfl⟩ rfl rfl ?_
                refine Run.no ⟨_, _, rfl, rfl, rfl⟩ rfl rfl ?_
                refine Run.one ((ok_pick rfl rfl rfl).sub (bool_eq (c := decide (¬ (x1 = x2 ∧ y1 = y2) ∧ 1 < t)) (by first | exact decide_eq_decide.2 ⟨fun h => ⟨by rw [Bool.not_eq_true'] at h10_34; exact of_decide_eq_false h10_34, tri_gt_iff.1 h⟩, fun h => tri_gt_iff.2 h.2⟩ | exact (decide_eq_false fun h => h.1 (by simpa using h10_34)).symm))) ⟨_, _, rfl, rfl, rfl⟩ rfl rfl ?_
                refine Run.one ((ok_eql_bool rfl rfl rfl Tryz.isBool4).sub (bool_eq (c := true) (by simp))) ⟨_, _, rfl, rfl, rfl⟩ rfl rfl ?_
                refine Run.one (ok_pick rfl rfl rfl) rfl rfl rfl ?_
                refine Run.one (ok_move rfl rfl) rfl rfl rfl ?_
                refine Run.one (ok_call rfl rfl wakes9_spec) ⟨_, _, rfl, rfl, rfl⟩ rfl rfl ?_
                refine Run.one (ok_pick rfl rfl rfl) rfl rfl rfl ?_
                refine Run.one (ok_assign rfl rfl) rfl rfl rfl ?_
                refine Run.nil ?_
                refine Run.nil ?_
                refine T_ret ?_
                exact ⟨_, [], .one (.tmp rfl), List.nil_sublist _, rfl, rfl⟩
            · have k10_4 := of_decide_eq_false h10_4
              refine Run.one (ok_move rfl rfl) rfl rfl rfl ?_
              refine Run.one (ok_move rfl rfl) ⟨_, _, rfl, rfl, rfl⟩ rfl rfl ?_
              refine Run.one ((ok_pick rfl rfl rfl).sub (bool_eq (c := decide ((0 ≤ t ∧ t ≤ 1) ∨ (x1 = x2 ∧ y1 = y2))) (by first | exact (decide_eq_true (.inl k10_4)).symm | exact decide_eq_decide.2 ⟨.inr, fun h => h.resolve_left k10_4⟩ | exact decide_eq_decide.2 ⟨.inr, fun h => h.resolve_left fun h => k7_2 (tri_ge_iff.2 h.1)⟩))) rfl rfl rfl ?_
              refine Run.one ((ok_eql_bool rfl rfl rfl Tryz.isBool4).sub (bool_eq (c := true) (by simp))) rfl rfl rfl ?_
              refine Run.one (ok_move rfl rfl) rfl rfl rfl ?_
              refine Run.one (ok_load_agg rfl rfl rfl rfl) ⟨_, _, rfl, rfl, rfl⟩ rfl rfl ?_
              refine Run.one (ok_load_agg rfl rfl rfl rfl) ⟨_, _, rfl, rfl, rfl⟩ rfl rfl ?_
              refine Run.one (ok_load_own_agg 0 rfl rfl rfl rfl rfl) ⟨_, _, rfl, rfl, rfl⟩ rfl rfl ?_
              refine Run.one ((ok_call rfl rfl (sWithin_spec (by unfold cap; omega))).sub (bool_eq (c := decide ((0 < t ∧ t < 1) ∧ ¬ (x1 = x2 ∧ y1 = y2))) (decide_eq_decide.2 within_at))) ⟨_, _, rfl, rfl, rfl⟩ rfl rfl ?_
              refine Run.one (ok_move rfl rfl) ⟨_, _, rfl, rfl, rfl⟩ rfl rfl ?_
              refine Run.one (ok_move rfl rfl) ⟨_, _, rfl, rfl, rfl⟩ rfl rfl ?_
              refine Run.no ⟨_, _, rfl, rfl, rfl⟩ rfl rfl ?_
              refine Run.no ⟨_, _, rfl, rfl, rfl⟩ rfl rfl ?_
              refine Run.one ((ok_pick rfl rfl rfl).sub (bool_eq (c := decide ((0 < t ∧ t < 1) ∧ ¬ (x1 = x2 ∧ y1 = y2))) (by first | exact (decide_not.symm.trans (decide_eq_decide.2 ⟨fun h => ⟨k10_14, h⟩, fun h => h.2⟩)) | exact (decide_eq_false fun h => k10_14 h.1).symm | exact (decide_eq_false fun h => k9_2 (tri_gt_iff.2 h.1.1)).symm))) ⟨_, _, rfl, rfl, rfl⟩ rfl rfl ?_
              refine Run.one ((ok_eql_bool rfl rfl rfl Tryz.isBool4).sub (bool_eq (c := true) (by simp))) ⟨_, _, rfl, rfl, rfl⟩ rfl rfl ?_
              refine Run.one (ok_pick rfl rfl rfl) rfl rfl rfl ?_
              refine Run.one (ok_move rfl rfl) rfl rfl rfl ?_
              refine Run.one (ok_load_agg rfl rfl rfl rfl) ⟨_, _, rfl, rfl, rfl⟩ rfl rfl ?_
              refine Run.one (ok_load_agg rfl rfl rfl rfl) ⟨_, _, rfl, rfl, rfl⟩ rfl rfl ?_
              refine Run.one (ok_load_own_agg 0 rfl rfl rfl rfl rfl) ⟨_, _, rfl, rfl, rfl⟩ rfl rfl ?_
              refine Run.one ((ok_call rfl rfl (sSide_spec (by unfold cap; omega))).sub (int_eq (n := 0) (by rw [crs_at]; rfl))) ⟨_, _, rfl, rfl, rfl⟩ rfl rfl ?_
              refine Run.one (ok_cmp rfl rfl rfl rfl) ⟨_, _, rfl, rfl, rfl⟩ rfl rfl ?_
              refine Run.one (ok_pick rfl rfl rfl) rfl rfl rfl ?_
              refine Run.one (ok_move rfl rfl) rfl rfl rfl ?_
              refine Run.one (ok_load_agg rfl rfl rfl rfl) ⟨_, _, rfl, rfl, rfl⟩ rfl rfl ?_
              refine Run.one (ok_load_agg rfl rfl rfl rfl) ⟨_, _, rfl, rfl, rfl⟩ rfl rfl ?_
              refine Run.one (ok_load_own_agg 0 rfl rfl rfl rfl rfl) ⟨_, _, rfl, rfl, rfl⟩ rfl rfl ?_
              refine Run.one ((ok_call rfl rfl (sStraight_spec (by unfold cap; omega))).sub (bool_eq (c := decide (¬ (x1 = x2 ∧ y1 = y2) ∧ 1 < t)) (decide_eq_decide.2 straight_at))) ⟨_, _, rfl, rfl, rfl⟩ rfl rfl ?_
              refine Run.one (ok_move rfl rfl) ⟨_, _, rfl, rfl, rfl⟩ rfl rfl ?_
              refine Run.oneB (ok_not rfl rfl) ⟨_, _, rfl, rfl, rfl⟩ rfl rfl (fun h10_34 => ?_) (fun h10_34 => ?_)
              · refine Run.one (ok_move rfl rfl) ⟨_, _, rfl, rfl, rfl⟩ rfl rfl ?_
                refine Run.one (ok_load_agg rfl rfl rfl rfl) ⟨_, _, rfl, rfl, rfl⟩ rfl rfl ?_
                refine Run.one (ok_call rfl rfl (rqOf_spec (n := 1) (q := 1) (by decide) (by decide))) ⟨_, _, rfl, rfl, rfl⟩ rfl rfl ?_
                refine Run.one (ok_call rfl rfl (rqcmp_spec (by omega))) ⟨_, _, rfl, rfl, rfl⟩ rfl rfl ?_
                refine Run.one (ok_cmp rfl rfl rfl rfl) ⟨_, _, rfl, rfl, rfl⟩ rfl rfl ?_
                refine Run.one ((ok_pick rfl rfl rfl).sub (bool_eq (c := decide (¬ (x1 = x2 ∧ y1 = y2) ∧ 1 < t)) (by first | exact decide_eq_decide.2 ⟨fun h => ⟨by rw [Bool.not_eq_true'] at h10_34; exact of_decide_eq_false h10_34, tri_gt_iff.1 h⟩, fun h => tri_gt_iff.2 h.2⟩ | exact (decide_eq_false fun h => h.1 (by simpa using h10_34)).symm))) ⟨_, _, rfl, rfl, rfl⟩ rfl rfl ?_
                refine Run.one ((ok_eql_bool rfl rfl rfl Tryz.isBool4).sub (bool_eq (c := true) (by simp))) ⟨_, _, rfl, rfl, rfl⟩ rfl rfl ?_
                refine Run.one (ok_pick rfl rfl rfl) rfl rfl rfl ?_
                refine Run.one (ok_move rfl rfl) rfl rfl rfl ?_
                refine Run.one (ok_call rfl rfl wakes9_spec) ⟨_, _, rfl, rfl, rfl⟩ rfl rfl ?_
                refine Run.one (ok_pick rfl rfl rfl) rfl rfl rfl ?_
                refine Run.one (ok_assign rfl rfl) rfl rfl rfl ?_
                refine Run.nil ?_
                refine Run.nil ?_
                refine T_ret ?_
                exact ⟨_, [], .one (.tmp rfl), List.nil_sublist _, rfl, rfl⟩
              · refine Run.one (ok_move rfl rfl) ⟨_, _, rfl, rfl, rfl⟩ rfl rfl ?_
                refine Run.no ⟨_, _, rfl, rfl, rfl⟩ rfl rfl ?_
                refine Run.no ⟨_, _, rfl, rfl, rfl⟩ rfl rfl ?_
                refine Run.no ⟨_, _, rfl, rfl, rfl⟩ rfl rfl ?_
                refine Run.no ⟨_, _, rfl, rfl, rfl⟩ rfl rfl ?_
                refine Run.one ((ok_pick rfl rfl rfl).sub (bool_eq (c := decide (¬ (x1 = x2 ∧ y1 = y2) ∧ 1 < t)) (by first | exact decide_eq_decide.2 ⟨fun h => ⟨by rw [Bool.not_eq_true'] at h10_34; exact of_decide_eq_false h10_34, tri_gt_iff.1 h⟩, fun h => tri_gt_iff.2 h.2⟩ | exact (decide_eq_false fun h => h.1 (by simpa using h10_34)).symm))) ⟨_, _, rfl, rfl, rfl⟩ rfl rfl ?_
                refine Run.one ((ok_eql_bool rfl rfl rfl Tryz.isBool4).sub (bool_eq (c := true) (by simp))) ⟨_, _, rfl, rfl, rfl⟩ rfl rfl ?_
                refine Run.one (ok_pick rfl rfl rfl) rfl rfl rfl ?_
                refine Run.one (ok_move rfl rfl) rfl rfl rfl ?_
                refine Run.one (ok_call rfl rfl wakes9_spec) ⟨_, _, rfl, rfl, rfl⟩ rfl rfl ?_
                refine Run.one (ok_pick rfl rfl rfl) rfl rfl rfl ?_
                refine Run.one (ok_assign rfl rfl) rfl rfl rfl ?_
                refine Run.nil ?_
                refine Run.nil ?_
                refine T_ret ?_
                exact ⟨_, [], .one (.tmp rfl), List.nil_sublist _, rfl, rfl⟩
        · have k7_2 := of_decide_eq_false h7_2
          refine Run.one (ok_move rfl rfl) rfl rfl rfl ?_
          refine Run.no ⟨_, _, rfl, rfl, rfl⟩ rfl rfl ?_
          refine Run.no ⟨_, _, rfl, rfl, rfl⟩ rfl rfl ?_
          refine Run.no ⟨_, _, rfl, rfl, rfl⟩ rfl rfl ?_
          refine Run.no ⟨_, _, rfl, rfl, rfl⟩ rfl rfl ?_
          refine Run.one (ok_pick rfl rfl rfl) rfl rfl rfl ?_
          refine Run.one (ok_assign rfl rfl) rfl rfl rfl ?_
          refine Run.nil ?_
          refine Run.nil ?_
          refine T_regionS ?_
          refine Run.one (ok_load_agg rfl rfl rfl rfl) rfl rfl rfl ?_
          refine Run.one (ok_load_agg rfl rfl rfl rfl) rfl rfl rfl ?_
          refine Run.one (ok_call rfl rfl (rpSame_spec (by omega))) rfl rfl rfl ?_
          refine Run.one (ok_assign rfl rfl) rfl rfl rfl ?_
          refine Run.nil ?_
          refine T_drawS 10 (by kernel_rfl) ?_
          refine Run.one (ok_load_agg rfl rfl rfl rfl) rfl rfl rfl ?_
          refine Run.one (ok_call rfl rfl (rqSign_spec (by omega))) rfl rfl rfl ?_
          refine Run.oneB (ok_cmp rfl rfl rfl rfl) rfl rfl rfl (fun h9_2 => ?_) (fun h9_2 => ?_)
          · have k9_2 := of_decide_eq_true h9_2
            refine Run.one (ok_move rfl rfl) rfl rfl rfl ?_
            refine Run.one (ok_load_agg rfl rfl rfl rfl) ⟨_, _, rfl, rfl, rfl⟩ rfl rfl ?_
            refine Run.one (ok_call rfl rfl (rqOf_spec (n := 1) (q := 1) (by decide) (by decide))) ⟨_, _, rfl, rfl, rfl⟩ rfl rfl ?_
            refine Run.one (ok_call rfl rfl (rqcmp_spec (by omega))) ⟨_, _, rfl, rfl, rfl⟩ rfl rfl ?_
            refine Run.one (ok_cmp rfl rfl rfl rfl) ⟨_, _, rfl, rfl, rfl⟩ rfl rfl ?_
            refine Run.one ((ok_pick rfl rfl rfl).sub (bool_eq (c := decide (0 < t ∧ t < 1)) (decide_eq_decide.2 ⟨fun h => ⟨tri_gt_iff.1 k9_2, tri_lt0.1 h⟩, fun h => tri_lt0.2 h.2⟩))) rfl rfl rfl ?_
            refine Run.one (ok_assign rfl rfl) rfl rfl rfl ?_
            refine Run.nil ?_
            refine Run.nil ?_
            refine T_drawS 47 (by kernel_rfl) ?_
            refine Run.one (ok_load_agg rfl rfl rfl rfl) rfl rfl rfl ?_
            refine Run.one (ok_load_agg rfl rfl rfl rfl) rfl rfl rfl ?_
            refine Run.one (ok_load_own_agg 0 rfl rfl rfl rfl rfl) rfl rfl rfl ?_
            refine Run.one ((ok_call rfl rfl (sOn_spec (by unfold cap; omega))).sub (bool_eq (c := decide ((0 ≤ t ∧ t ≤ 1) ∨ (x1 = x2 ∧ y1 = y2))) (decide_eq_decide.2 onP_at))) rfl rfl rfl ?_
            refine Run.one (ok_move rfl rfl) rfl rfl rfl ?_
            refine Run.one (ok_move rfl rfl) rfl rfl rfl ?_
            refine Run.one (ok_move rfl rfl) ⟨_, _, rfl, rfl, rfl⟩ rfl rfl ?_
            refine Run.one ((ok_pick rfl rfl rfl).sub (bool_eq (c := decide ((0 ≤ t ∧ t ≤ 1) ∨ (x1 = x2 ∧ y1 = y2))) (by first | exact (decide_eq_true (.inl k10_4)).symm | exact decide_eq_decide.2 ⟨.inr, fun h => h.resolve_left k10_4⟩ | exact decide_eq_decide.2 ⟨.inr, fun h => h.resolve_left fun h => k7_2 (tri_ge_iff.2 h.1)⟩))) rfl rfl rfl ?_
            refine Run.one ((ok_eql_bool rfl rfl rfl Tryz.isBool4).sub (bool_eq (c := true) (by simp))) rfl rfl rfl ?_
            refine Run.one (ok_move rfl rfl) rfl rfl rfl ?_
            refine Run.one (ok_load_agg rfl rfl rfl rfl) ⟨_, _, rfl, rfl, rfl⟩ rfl rfl ?_
            refine Run.one (ok_load_agg rfl rfl rfl rfl) ⟨_, _, rfl, rfl, rfl⟩ rfl rfl ?_
            refine Run.one (ok_load_own_agg 0 rfl rfl rfl rfl rfl) ⟨_, _, rfl, rfl, rfl⟩ rfl rfl ?_
            refine Run.one ((ok_call rfl rfl (sWithin_spec (by unfold cap; omega))).sub (bool_eq (c := decide ((0 < t ∧ t < 1) ∧ ¬ (x1 = x2 ∧ y1 = y2))) (decide_eq_decide.2 within_at))) ⟨_, _, rfl, rfl, rfl⟩ rfl rfl ?_
            refine Run.oneB (ok_move rfl rfl) ⟨_, _, rfl, rfl, rfl⟩ rfl rfl (fun h10_14 => ?_) (fun h10_14 => ?_)
            · have k10_14 := of_decide_eq_true h10_14
              refine Run.one (ok_move rfl rfl) ⟨_, _, rfl, rfl, rfl⟩ rfl rfl ?_
              refine Run.one (ok_move rfl rfl) ⟨_, _, rfl, rfl, rfl⟩ rfl rfl ?_
              refine Run.one (ok_not rfl rfl) ⟨_, _, rfl, rfl, rfl⟩ rfl rfl ?_
              refine Run.one ((ok_pick rfl rfl rfl).sub (bool_eq (c := decide ((0 < t ∧ t < 1) ∧ ¬ (x1 = x2 ∧ y1 = y2))) (by first | exact (decide_not.symm.trans (decide_eq_decide.2 ⟨fun h => ⟨k10_14, h⟩, fun h => h.2⟩)) | exact (decide_eq_false fun h => k10_14 h.1).symm | exact (decide_eq_false fun h => k9_2 (tri_gt_iff.2 h.1.1)).symm))) ⟨_, _, rfl, rfl, rfl⟩ rfl rfl ?_
              refine Run.one ((ok_eql_bool rfl rfl rfl Tryz.isBool4).sub (bool_eq (c := true) (by simp))) ⟨_, _, rfl, rfl, rfl⟩ rfl rfl ?_
              refine Run.one (ok_pick rfl rfl rfl) rfl rfl rfl ?_
              refine Run.one (ok_move rfl rfl) rfl rfl rfl ?_
              refine Run.one (ok_load_agg rfl rfl rfl rfl) ⟨_, _, rfl, rfl, rfl⟩ rfl rfl ?_
              refine Run.one (ok_load_agg rfl rfl rfl rfl) ⟨_, _, rfl, rfl, rfl⟩ rfl rfl ?_
              refine Run.one (ok_load_own_agg 0 rfl rfl rfl rfl rfl) ⟨_, _, rfl, rfl, rfl⟩ rfl rfl ?_
              refine Run.one ((ok_call rfl rfl (sSide_spec (by unfold cap; omega))).sub (int_eq (n := 0) (by rw [crs_at]; rfl))) ⟨_, _, rfl, rfl, rfl⟩ rfl rfl ?_
              refine Run.one (ok_cmp rfl rfl rfl rfl) ⟨_, _, rfl, rfl, rfl⟩ rfl rfl ?_
              refine Run.one (ok_pick rfl rfl rfl) rfl rfl rfl ?_
              refine Run.one (ok_move rfl rfl) rfl rfl rfl ?_
              refine Run.one (ok_load_agg rfl rfl rfl rfl) ⟨_, _, rfl, rfl, rfl⟩ rfl rfl ?_
              refine Run.one (ok_load_agg rfl rfl rfl rfl) ⟨_, _, rfl, rfl, rfl⟩ rfl rfl ?_
              refine Run.one (ok_load_own_agg 0 rfl rfl rfl rfl rfl) ⟨_, _, rfl, rfl, rfl⟩ rfl rfl ?_
              refine Run.one ((ok_call rfl rfl (sStraight_spec (by unfold cap; omega))).sub (bool_eq (c := decide (¬ (x1 = x2 ∧ y1 = y2) ∧ 1 < t)) (decide_eq_decide.2 straight_at))) ⟨_, _, rfl, rfl, rfl⟩ rfl rfl ?_
              refine Run.one (ok_move rfl rfl) ⟨_, _, rfl, rfl, rfl⟩ rfl rfl ?_
              refine Run.oneB (ok_not rfl rfl) ⟨_, _, rfl, rfl, rfl⟩ rfl rfl (fun h10_34 => ?_) (fun h10_34 => ?_)
              · refine Run.one (ok_move rfl rfl) ⟨_, _, rfl, rfl, rfl⟩ rfl rfl ?_
                refine Run.one (ok_load_agg rfl rfl rfl rfl) ⟨_, _, rfl, rfl, rfl⟩ rfl rfl ?_
                refine Run.one (ok_call rfl rfl (rqOf_spec (n := 1) (q := 1) (by decide) (by decide))) ⟨_, _, rfl, rfl, rfl⟩ rfl rfl ?_
                refine Run.one (ok_call rfl rfl (rqcmp_spec (by omega))) ⟨_, _, rfl, rfl, rfl⟩ rfl rfl ?_
                refine Run.one (ok_cmp rfl rfl rfl rfl) ⟨_, _, rfl, rfl, rfl⟩ rfl rfl ?_
                refine Run.one ((ok_pick rfl rfl rfl).sub (bool_eq (c := decide (¬ (x1 = x2 ∧ y1 = y2) ∧ 1 < t)) (by first | exact decide_eq_decide.2 ⟨fun h => ⟨by rw [Bool.not_eq_true'] at h10_34; exact of_decide_eq_false h10_34, tri_gt_iff.1 h⟩, fun h => tri_gt_iff.2 h.2⟩ | exact (decide_eq_false fun h => h.1 (by simpa using h10_34)).symm))) ⟨_, _, rfl, rfl, rfl⟩ rfl rfl ?_
                refine Run.one ((ok_eql_bool rfl rfl rfl Tryz.isBool4).sub (bool_eq (c := true) (by simp))) ⟨_, _, rfl, rfl, rfl⟩ rfl rfl ?_
                refine Run.one (ok_pick rfl rfl rfl) rfl rfl rfl ?_
                refine Run.one (ok_move rfl rfl) rfl rfl rfl ?_
                refine Run.one (ok_call rfl rfl wakes9_spec) ⟨_, _, rfl, rfl, rfl⟩ rfl rfl ?_
                refine Run.one (ok_pick rfl rfl rfl) rfl rfl rfl ?_
                refine Run.one (ok_assign rfl rfl) rfl rfl rfl ?_
                refine Run.nil ?_
                refine Run.nil ?_
                refine T_ret ?_
                exact ⟨_, [], .one (.tmp rfl), List.nil_sublist _, rfl, rfl⟩
              · refine Run.one (ok_move rfl rfl) ⟨_, _, rfl, rfl, rfl⟩ rfl rfl ?_
                refine Run.no ⟨_, _, rfl, rfl, rfl⟩ rfl rfl ?_
                refine Run.no ⟨_, _, rfl, rfl, rfl⟩ rfl rfl ?_
                refine Run.no ⟨_, _, rfl, rfl, rfl⟩ rfl rfl ?_
                refine Run.no ⟨_, _, rfl, rfl, rfl⟩ rfl rfl ?_
                refine Run.one ((ok_pick rfl rfl rfl).sub (bool_eq (c := decide (¬ (x1 = x2 ∧ y1 = y2) ∧ 1 < t)) (by first | exact decide_eq_decide.2 ⟨fun h => ⟨by rw [Bool.not_eq_true'] at h10_34; exact of_decide_eq_false h10_34, tri_gt_iff.1 h⟩, fun h => tri_gt_iff.2 h.2⟩ | exact (decide_eq_false fun h => h.1 (by simpa using h10_34)).symm))) ⟨_, _, rfl, rfl, rfl⟩ rfl rfl ?_
                refine Run.one ((ok_eql_bool rfl rfl rfl Tryz.isBool4).sub (bool_eq (c := true) (by simp))) ⟨_, _, rfl, rfl, rfl⟩ rfl rfl ?_
                refine Run.one (ok_pick rfl rfl rfl) rfl rfl rfl ?_
                refine Run.one (ok_move rfl rfl) rfl rfl rfl ?_
                refine Run.one (ok_call rfl rfl wakes9_spec) ⟨_, _, rfl, rfl, rfl⟩ rfl rfl ?_
                refine Run.one (ok_pick rfl rfl rfl) rfl rfl rfl ?_
                refine Run.one (ok_assign rfl rfl) rfl rfl rfl ?_
                refine Run.nil ?_
                refine Run.nil ?_
                refine T_ret ?_
                exact ⟨_, [], .one (.tmp rfl), List.nil_sublist _, rfl, rfl⟩
            · have k10_14 := of_decide_eq_false h10_14
              refine Run.one (ok_move rfl rfl) ⟨_, _, rfl, rfl, rfl⟩ rfl rfl ?_
              refine Run.no ⟨_, _, rfl, rfl, rfl⟩ rfl rfl ?_
              refine Run.no ⟨_, _, rfl, rfl, rfl⟩ rfl rfl ?_
              refine Run.one ((ok_pick rfl rfl rfl).sub (bool_eq (c := decide ((0 < t ∧ t < 1) ∧ ¬ (x1 = x2 ∧ y1 = y2))) (by first | exact (decide_not.symm.trans (decide_eq_decide.2 ⟨fun h => ⟨k10_14, h⟩, fun h => h.2⟩)) | exact (decide_eq_false fun h => k10_14 h.1).symm | exact (decide_eq_false fun h => k9_2 (tri_gt_iff.2 h.1.1)).symm))) ⟨_, _, rfl, rfl, rfl⟩ rfl rfl ?_
              refine Run.one ((ok_eql_bool rfl rfl rfl Tryz.isBool4).sub (bool_eq (c := true) (by simp))) ⟨_, _, rfl, rfl, rfl⟩ rfl rfl ?_
              refine Run.one (ok_pick rfl rfl rfl) rfl rfl rfl ?_
              refine Run.one (ok_move rfl rfl) rfl rfl rfl ?_
              refine Run.one (ok_load_agg rfl rfl rfl rfl) ⟨_, _, rfl, rfl, rfl⟩ rfl rfl ?_
              refine Run.one (ok_load_agg rfl rfl rfl rfl) ⟨_, _, rfl, rfl, rfl⟩ rfl rfl ?_
              refine Run.one (ok_load_own_agg 0 rfl rfl rfl rfl rfl) ⟨_, _, rfl, rfl, rfl⟩ rfl rfl ?_
              refine Run.one ((ok_call rfl rfl (sSide_spec (by unfold cap; omega))).sub (int_eq (n := 0) (by rw [crs_at]; rfl))) ⟨_, _, rfl, rfl, rfl⟩ rfl rfl ?_
              refine Run.one (ok_cmp rfl rfl rfl rfl) ⟨_, _, rfl, rfl, rfl⟩ rfl rfl ?_
              refine Run.one (ok_pick rfl rfl rfl) rfl rfl rfl ?_
              refine Run.one (ok_move rfl rfl) rfl rfl rfl ?_
              refine Run.one (ok_load_agg rfl rfl rfl rfl) ⟨_, _, rfl, rfl, rfl⟩ rfl rfl ?_
              refine Run.one (ok_load_agg rfl rfl rfl rfl) ⟨_, _, rfl, rfl, rfl⟩ rfl rfl ?_
              refine Run.one (ok_load_own_agg 0 rfl rfl rfl rfl rfl) ⟨_, _, rfl, rfl, rfl⟩ rfl rfl ?_
              refine Run.one ((ok_call rfl rfl (sStraight_spec (by unfold cap; omega))).sub (bool_eq (c := decide (¬ (x1 = x2 ∧ y1 = y2) ∧ 1 < t)) (decide_eq_decide.2 straight_at))) ⟨_, _, rfl, rfl, rfl⟩ rfl rfl ?_
              refine Run.one (ok_move rfl rfl) ⟨_, _, rfl, rfl, rfl⟩ rfl rfl ?_
              refine Run.oneB (ok_not rfl rfl) ⟨_, _, rfl, rfl, rfl⟩ rfl rfl (fun h10_34 => ?_) (fun h10_34 => ?_)
              · refine Run.one (ok_move rfl rfl) ⟨_, _, rfl, rfl, rfl⟩ rfl rfl ?_
                refine Run.one (ok_load_agg rfl rfl rfl rfl) ⟨_, _, rfl, rfl, rfl⟩ rfl rfl ?_
                refine Run.one (ok_call rfl rfl (rqOf_spec (n := 1) (q := 1) (by decide) (by decide))) ⟨_, _, rfl, rfl, rfl⟩ rfl rfl ?_
                refine Run.one (ok_call rfl rfl (rqcmp_spec (by omega))) ⟨_, _, rfl, rfl, rfl⟩ rfl rfl ?_
                refine Run.one (ok_cmp rfl rfl rfl rfl) ⟨_, _, rfl, rfl, rfl⟩ rfl rfl ?_
                refine Run.one ((ok_pick rfl rfl rfl).sub (bool_eq (c := decide (¬ (x1 = x2 ∧ y1 = y2) ∧ 1 < t)) (by first | exact decide_eq_decide.2 ⟨fun h => ⟨by rw [Bool.not_eq_true'] at h10_34; exact of_decide_eq_false h10_34, tri_gt_iff.1 h⟩, fun h => tri_gt_iff.2 h.2⟩ | exact (decide_eq_false fun h => h.1 (by simpa using h10_34)).symm))) ⟨_, _, rfl, rfl, rfl⟩ rfl rfl ?_
                refine Run.one ((ok_eql_bool rfl rfl rfl Tryz.isBool4).sub (bool_eq (c := true) (by simp))) ⟨_, _, rfl, rfl, rfl⟩ rfl rfl ?_
                refine Run.one (ok_pick rfl rfl rfl) rfl rfl rfl ?_
                refine Run.one (ok_move rfl rfl) rfl rfl rfl ?_
                refine Run.one (ok_call rfl rfl wakes9_spec) ⟨_, _, rfl, rfl, rfl⟩ rfl rfl ?_
                refine Run.one (ok_pick rfl rfl rfl) rfl rfl rfl ?_
                refine Run.one (ok_assign rfl rfl) rfl rfl rfl ?_
                refine Run.nil ?_
                refine Run.nil ?_
                refine T_ret ?_
                exact ⟨_, [], .one (.tmp rfl), List.nil_sublist _, rfl, rfl⟩
              · refine Run.one (ok_move rfl rfl) ⟨_, _, rfl, rfl, rfl⟩ rfl rfl ?_
                refine Run.no ⟨_, _, rfl, rfl, rfl⟩ rfl rfl ?_
                refine Run.no ⟨_, _, rfl, rfl, rfl⟩ rfl rfl ?_
                refine Run.no ⟨_, _, rfl, rfl, rfl⟩ rfl rfl ?_
                refine Run.no ⟨_, _, rfl, rfl, rfl⟩ rfl rfl ?_
                refine Run.one ((ok_pick rfl rfl rfl).sub (bool_eq (c := decide (¬ (x1 = x2 ∧ y1 = y2) ∧ 1 < t)) (by first | exact decide_eq_decide.2 ⟨fun h => ⟨by rw [Bool.not_eq_true'] at h10_34; exact of_decide_eq_false h10_34, tri_gt_iff.1 h⟩, fun h => tri_gt_iff.2 h.2⟩ | exact (decide_eq_false fun h => h.1 (by simpa using h10_34)).symm))) ⟨_, _, rfl, rfl, rfl⟩ rfl rfl ?_
                refine Run.one ((ok_eql_bool rfl rfl rfl Tryz.isBool4).sub (bool_eq (c := true) (by simp))) ⟨_, _, rfl, rfl, rfl⟩ rfl rfl ?_
                refine Run.one (ok_pick rfl rfl rfl) rfl rfl rfl ?_
                refine Run.one (ok_move rfl rfl) rfl rfl rfl ?_
                refine Run.one (ok_call rfl rfl wakes9_spec) ⟨_, _, rfl, rfl, rfl⟩ rfl rfl ?_
                refine Run.one (ok_pick rfl rfl rfl) rfl rfl rfl ?_
                refine Run.one (ok_assign rfl rfl) rfl rfl rfl ?_
                refine Run.nil ?_
                refine Run.nil ?_
                refine T_ret ?_
                exact ⟨_, [], .one (.tmp rfl), List.nil_sublist _, rfl, rfl⟩
          · have k9_2 := of_decide_eq_false h9_2
            refine Run.one (ok_move rfl rfl) rfl rfl rfl ?_
            refine Run.no ⟨_, _, rfl, rfl, rfl⟩ rfl rfl ?_
            refine Run.no ⟨_, _, rfl, rfl, rfl⟩ rfl rfl ?_
            refine Run.no ⟨_, _, rfl, rfl, rfl⟩ rfl rfl ?_
            refine Run.no ⟨_, _, rfl, rfl, rfl⟩ rfl rfl ?_
            refine Run.one (ok_pick rfl rfl rfl) rfl rfl rfl ?_
            refine Run.one (ok_assign rfl rfl) rfl rfl rfl ?_
            refine Run.nil ?_
            refine Run.nil ?_
            refine T_drawS 47 (by kernel_rfl) ?_
            refine Run.one (ok_load_agg rfl rfl rfl rfl) rfl rfl rfl ?_
            refine Run.one (ok_load_agg rfl rfl rfl rfl) rfl rfl rfl ?_
            refine Run.one (ok_load_own_agg 0 rfl rfl rfl rfl rfl) rfl rfl rfl ?_
            refine Run.one ((ok_call rfl rfl (sOn_spec (by unfold cap; omega))).sub (bool_eq (c := decide ((0 ≤ t ∧ t ≤ 1) ∨ (x1 = x2 ∧ y1 = y2))) (decide_eq_decide.2 onP_at))) rfl rfl rfl ?_
            refine Run.one (ok_move rfl rfl) rfl rfl rfl ?_
            refine Run.one (ok_move rfl rfl) rfl rfl rfl ?_
            refine Run.one (ok_move rfl rfl) ⟨_, _, rfl, rfl, rfl⟩ rfl rfl ?_
            refine Run.one ((ok_pick rfl rfl rfl).sub (bool_eq (c := decide ((0 ≤ t ∧ t ≤ 1) ∨ (x1 = x2 ∧ y1 = y2))) (by first | exact (decide_eq_true (.inl k10_4)).symm | exact decide_eq_decide.2 ⟨.inr, fun h => h.resolve_left k10_4⟩ | exact decide_eq_decide.2 ⟨.inr, fun h => h.resolve_left fun h => k7_2 (tri_ge_iff.2 h.1)⟩))) rfl rfl rfl ?_
            refine Run.one ((ok_eql_bool rfl rfl rfl Tryz.isBool4).sub (bool_eq (c := true) (by simp))) rfl rfl rfl ?_
            refine Run.one (ok_move rfl rfl) rfl rfl rfl ?_
            refine Run.one (ok_load_agg rfl rfl rfl rfl) ⟨_, _, rfl, rfl, rfl⟩ rfl rfl ?_
            refine Run.one (ok_load_agg rfl rfl rfl rfl) ⟨_, _, rfl, rfl, rfl⟩ rfl rfl ?_
            refine Run.one (ok_load_own_agg 0 rfl rfl rfl rfl rfl) ⟨_, _, rfl, rfl, rfl⟩ rfl rfl ?_
            refine Run.one ((ok_call rfl rfl (sWithin_spec (by unfold cap; omega))).sub (bool_eq (c := decide ((0 < t ∧ t < 1) ∧ ¬ (x1 = x2 ∧ y1 = y2))) (decide_eq_decide.2 within_at))) ⟨_, _, rfl, rfl, rfl⟩ rfl rfl ?_
            refine Run.one (ok_move rfl rfl) ⟨_, _, rfl, rfl, rfl⟩ rfl rfl ?_
            refine Run.one (ok_move rfl rfl) ⟨_, _, rfl, rfl, rfl⟩ rfl rfl ?_
            refine Run.no ⟨_, _, rfl, rfl, rfl⟩ rfl rfl ?_
            refine Run.no ⟨_, _, rfl, rfl, rfl⟩ rfl rfl ?_
            refine Run.one ((ok_pick rfl rfl rfl).sub (bool_eq (c := decide ((0 < t ∧ t < 1) ∧ ¬ (x1 = x2 ∧ y1 = y2))) (by first | exact (decide_not.symm.trans (decide_eq_decide.2 ⟨fun h => ⟨k10_14, h⟩, fun h => h.2⟩)) | exact (decide_eq_false fun h => k10_14 h.1).symm | exact (decide_eq_false fun h => k9_2 (tri_gt_iff.2 h.1.1)).symm))) ⟨_, _, rfl, rfl, rfl⟩ rfl rfl ?_
            refine Run.one ((ok_eql_bool rfl rfl rfl Tryz.isBool4).sub (bool_eq (c := true) (by simp))) ⟨_, _, rfl, rfl, rfl⟩ rfl rfl ?_
            refine Run.one (ok_pick rfl rfl rfl) rfl rfl rfl ?_
            refine Run.one (ok_move rfl rfl) rfl rfl rfl ?_
            refine Run.one (ok_load_agg rfl rfl rfl rfl) ⟨_, _, rfl, rfl, rfl⟩ rfl rfl ?_
            refine Run.one (ok_load_agg rfl rfl rfl rfl) ⟨_, _, rfl, rfl, rfl⟩ rfl rfl ?_
            refine Run.one (ok_load_own_agg 0 rfl rfl rfl rfl rfl) ⟨_, _, rfl, rfl, rfl⟩ rfl rfl ?_
            refine Run.one ((ok_call rfl rfl (sSide_spec (by unfold cap; omega))).sub (int_eq (n := 0) (by rw [crs_at]; rfl))) ⟨_, _, rfl, rfl, rfl⟩ rfl rfl ?_
            refine Run.one (ok_cmp rfl rfl rfl rfl) ⟨_, _, rfl, rfl, rfl⟩ rfl rfl ?_
            refine Run.one (ok_pick rfl rfl rfl) rfl rfl rfl ?_
            refine Run.one (ok_move rfl rfl) rfl rfl rfl ?_
            refine Run.one (ok_load_agg rfl rfl rfl rfl) ⟨_, _, rfl, rfl, rfl⟩ rfl rfl ?_
            refine Run.one (ok_load_agg rfl rfl rfl rfl) ⟨_, _, rfl, rfl, rfl⟩ rfl rfl ?_
            refine Run.one (ok_load_own_agg 0 rfl rfl rfl rfl rfl) ⟨_, _, rfl, rfl, rfl⟩ rfl rfl ?_
            refine Run.one ((ok_call rfl rfl (sStraight_spec (by unfold cap; omega))).sub (bool_eq (c := decide (¬ (x1 = x2 ∧ y1 = y2) ∧ 1 < t)) (decide_eq_decide.2 straight_at))) ⟨_, _, rfl, rfl, rfl⟩ rfl rfl ?_
            refine Run.one (ok_move rfl rfl) ⟨_, _, rfl, rfl, rfl⟩ rfl rfl ?_
            refine Run.oneB (ok_not rfl rfl) ⟨_, _, rfl, rfl, rfl⟩ rfl rfl (fun h10_34 => ?_) (fun h10_34 => ?_)
            · refine Run.one (ok_move rfl rfl) ⟨_, _, rfl, rfl, rfl⟩ rfl rfl ?_
              refine Run.one (ok_load_agg rfl rfl rfl rfl) ⟨_, _, rfl, rfl, rfl⟩ rfl rfl ?_
              refine Run.one (ok_call rfl rfl (rqOf_spec (n := 1) (q := 1) (by decide) (by decide))) ⟨_, _, rfl, rfl, rfl⟩ rfl rfl ?_
              refine Run.one (ok_call rfl rfl (rqcmp_spec (by omega))) ⟨_, _, rfl, rfl, rfl⟩ rfl rfl ?_
              refine Run.one (ok_cmp rfl rfl rfl rfl) ⟨_, _, rfl, rfl, rfl⟩ rfl rfl ?_
              refine Run.one ((ok_pick rfl rfl rfl).sub (bool_eq (c := decide (¬ (x1 = x2 ∧ y1 = y2) ∧ 1 < t)) (by first | exact decide_eq_decide.2 ⟨fun h => ⟨by rw [Bool.not_eq_true'] at h10_34; exact of_decide_eq_false h10_34, tri_gt_iff.1 h⟩, fun h => tri_gt_iff.2 h.2⟩ | exact (decide_eq_false fun h => h.1 (by simpa using h10_34)).symm))) ⟨_, _, rfl, rfl, rfl⟩ rfl rfl ?_
              refine Run.one ((ok_eql_bool rfl rfl rfl Tryz.isBool4).sub (bool_eq (c := true) (by simp))) ⟨_, _, rfl, rfl, rfl⟩ rfl rfl ?_
              refine Run.one (ok_pick rfl rfl rfl) rfl rfl rfl ?_
              refine Run.one (ok_move rfl rfl) rfl rfl rfl ?_
              refine Run.one (ok_call rfl rfl wakes9_spec) ⟨_, _, rfl, rfl, rfl⟩ rfl rfl ?_
              refine Run.one (ok_pick rfl rfl rfl) rfl rfl rfl ?_
              refine Run.one (ok_assign rfl rfl) rfl rfl rfl ?_
              refine Run.nil ?_
              refine Run.nil ?_
              refine T_ret ?_
              exact ⟨_, [], .one (.tmp rfl), List.nil_sublist _, rfl, rfl⟩
            · refine Run.one (ok_move rfl rfl) ⟨_, _, rfl, rfl, rfl⟩ rfl rfl ?_
              refine Run.no ⟨_, _, rfl, rfl, rfl⟩ rfl rfl ?_
              refine Run.no ⟨_, _, rfl, rfl, rfl⟩ rfl rfl ?_
              refine Run.no ⟨_, _, rfl, rfl, rfl⟩ rfl rfl ?_
              refine Run.no ⟨_, _, rfl, rfl, rfl⟩ rfl rfl ?_
              refine Run.one ((ok_pick rfl rfl rfl).sub (bool_eq (c := decide (¬ (x1 = x2 ∧ y1 = y2) ∧ 1 < t)) (by first | exact decide_eq_decide.2 ⟨fun h => ⟨by rw [Bool.not_eq_true'] at h10_34; exact of_decide_eq_false h10_34, tri_gt_iff.1 h⟩, fun h => tri_gt_iff.2 h.2⟩ | exact (decide_eq_false fun h => h.1 (by simpa using h10_34)).symm))) ⟨_, _, rfl, rfl, rfl⟩ rfl rfl ?_
              refine Run.one ((ok_eql_bool rfl rfl rfl Tryz.isBool4).sub (bool_eq (c := true) (by simp))) ⟨_, _, rfl, rfl, rfl⟩ rfl rfl ?_
              refine Run.one (ok_pick rfl rfl rfl) rfl rfl rfl ?_
              refine Run.one (ok_move rfl rfl) rfl rfl rfl ?_
              refine Run.one (ok_call rfl rfl wakes9_spec) ⟨_, _, rfl, rfl, rfl⟩ rfl rfl ?_
              refine Run.one (ok_pick rfl rfl rfl) rfl rfl rfl ?_
              refine Run.one (ok_assign rfl rfl) rfl rfl rfl ?_
              refine Run.nil ?_
              refine Run.nil ?_
              refine T_ret ?_
              exact ⟨_, [], .one (.tmp rfl), List.nil_sublist _, rfl, rfl⟩
end Go.Proofs
