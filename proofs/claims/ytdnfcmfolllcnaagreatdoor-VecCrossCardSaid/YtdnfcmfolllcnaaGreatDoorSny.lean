/- The laws VecWays, VecOrder, VecTells, on the facts. -/
import Derived.Test.YtdnfcmfolllcnaaGreatDoorSnx
namespace Go.Proofs
open Go Go.Sv Num
variable {G : Imm}
theorem tri_ge0 {p q : Rat} (h : 0 ≤ tri p q) : q ≤ p := by
  unfold tri at h; by_cases h1 : p < q
  · rw [if_pos h1] at h; exact absurd h (by decide)
  · exact Rat.not_lt.1 h1
theorem tri_nge0 {p q : Rat} (h : ¬ 0 ≤ tri p q) : p < q := by
  unfold tri at h; by_cases h1 : p < q
  · exact h1
  · rw [if_neg h1] at h; split at h <;> exact absurd (by decide) h
theorem tri_le0 {p q : Rat} (h : tri p q ≤ 0) : p ≤ q := by
  unfold tri at h; by_cases h1 : p < q
  · exact Rat.le_of_lt h1
  · rw [if_neg h1] at h; by_cases h2 : q < p
    · rw [if_pos h2] at h; exact absurd h (by decide)
    · exact Rat.not_lt.1 h2
theorem tri_nlt {p q : Rat} (h : q ≤ p) : decide (tri p q < 0) = false := by
  refine decide_eq_false fun h1 => ?_
  unfold tri at h1; rw [if_neg (Rat.not_lt.2 h)] at h1; split at h1 <;> exact absurd h1 (by decide)
theorem dist_comm (x u : Rat) : dist x u = dist u x := by unfold dist; split <;> split <;> grind
theorem dist_nn (x u : Rat) : 0 ≤ dist x u := by unfold dist; split <;> grind
theorem dist_zero {x u : Rat} : dist x u = 0 ↔ x = u := by unfold dist; split <;> grind
theorem dist_tri (x v u : Rat) : dist x u ≤ dist x v + dist v u := by unfold dist; split <;> split <;> split <;> grind
theorem dist_mid {t : Rat} (h0 : 0 ≤ t) (h1 : t ≤ 1) (x u : Rat) : dist x (x + (u - x) * t) + dist (x + (u - x) * t) u = dist x u := by
  obtain ⟨w, hw⟩ : ∃ w, w = u - x := ⟨_, rfl⟩
  obtain ⟨z, hz⟩ : ∃ z, z = w * t := ⟨_, rfl⟩
  have hu : u = x + w := by grind
  rw [← hw, ← hz, hu]
  have h2 : 0 ≤ 1 - t := by grind
  by_cases hs : 0 ≤ w
  · have g1 : 0 ≤ w * t := Rat.mul_nonneg hs h0
    have g2 : 0 ≤ w * (1 - t) := Rat.mul_nonneg hs h2
    have g3 : w * (1 - t) = w - z := by grind
    unfold dist; split <;> split <;> split <;> grind
  · have g1 : 0 ≤ (-w) * t := Rat.mul_nonneg (by grind) h0
    have g2 : 0 ≤ (-w) * (1 - t) := Rat.mul_nonneg (by grind) h2
    have g3 : (-w) * (1 - t) = z - w := by grind
    have g4 : (-w) * t = -z := by grind
    unfold dist; split <;> split <;> split <;> grind
theorem far_zero {x u y v : Rat} : (tri (dist x u + dist y v) 0 == 0) = decide (x = u ∧ y = v) := by
  rw [tri_zero]
  refine decide_eq_decide.2 ⟨fun h => ?_, fun ⟨h1, h2⟩ => ?_⟩
  · have g1 := dist_nn x u
    have g2 := dist_nn y v
    exact ⟨dist_zero.1 (by grind), dist_zero.1 (by grind)⟩
  · rw [dist_zero.2 h1, dist_zero.2 h2]; exact Rat.add_zero 0
theorem tri_bd (p q : Rat) : tri p q = -1 ∨ tri p q = 0 ∨ tri p q = 1 := by
  unfold tri; split
  · exact .inl rfl
  · split
    · exact .inr (.inr rfl)
    · exact .inr (.inl rfl)
theorem triP_bd (x y u v : Rat) : triP x y u v = -1 ∨ triP x y u v = 0 ∨ triP x y u v = 1 := by
  unfold triP; split
  · exact tri_bd y v
  · exact tri_bd x u
theorem tri_anti (p q : Rat) : tri q p = -tri p q := by
  unfold tri; split <;> split <;> first | rfl | grind
theorem triP_anti (x y u v : Rat) : triP u v x y = -triP x y u v := by
  unfold triP; rw [tri_anti x u, tri_anti y v]; split <;> split <;> first | rfl | omega
theorem tri_shift (p q r : Rat) : tri (p + r) (q + r) = tri p q := by
  unfold tri; split <;> split <;> first | rfl | grind
theorem tri_negs (p q : Rat) : tri (-q) (-p) = tri p q := by
  unfold tri; split <;> split <;> first | rfl | grind
theorem triP_shift (x y u v a b : Rat) : triP (x + a) (y + b) (u + a) (v + b) = triP x y u v := by unfold triP; rw [tri_shift, tri_shift]
theorem triP_negs (x y u v : Rat) : triP (-u) (-v) (-x) (-y) = triP x y u v := by unfold triP; rw [tri_negs, tri_negs]
theorem tri_lt0 {p q : Rat} : tri p q < 0 ↔ p < q := by
  unfold tri; split
  · exact ⟨fun _ => by assumption, fun _ => by decide⟩
  · split <;> constructor <;> intro h <;> first | exact absurd h (by decide) | grind
theorem triP_trans {x y u v a b : Rat} (h1 : triP x y u v < 0) (h2 : triP u v a b < 0) : triP x y a b < 0 := by
  unfold triP at *
  by_cases e1 : tri x u = 0
  · rw [if_pos e1] at h1
    have e1' := tri_eq.1 e1
    subst e1'
    by_cases e2 : tri x a = 0
    · rw [if_pos e2] at h2 ⊢; exact tri_lt0.2 (by have := tri_lt0.1 h1; have := tri_lt0.1 h2; grind)
    · rw [if_neg e2] at h2 ⊢; exact h2
  · rw [if_neg e1] at h1
    have l1 := tri_lt0.1 h1
    by_cases e2 : tri u a = 0
    · have e2' := tri_eq.1 e2
      subst e2'
      rw [if_neg e1]; exact h1
    · rw [if_neg e2] at h2
      have l2 := tri_lt0.1 h2
      rw [if_neg (fun h => by have := tri_eq.1 h; grind)]; exact tri_lt0.2 (by grind)
abbrev rep (p : Rat × Rat) : (Bool × List Nat × List Nat) × (Bool × List Nat × List Nat) := ((decide (p.1.num < 0), dig p.1.num.natAbs, dig p.1.den), (decide (p.2.num < 0), dig p.2.num.natAbs, dig p.2.den))
theorem pv_rep (p : Rat × Rat) : pv (rep p) = p := by
  have h : ∀ q : Rat, qv (decide (q.num < 0), dig q.num.natAbs, dig q.den) = q := fun q => by
    show mkRat (sgn _ (val _)) (val _) = q
    rw [val_dig, val_dig, sgn_self, Rat.mkRat_self]
  show (qv _, qv _) = p
  rw [h, h]
theorem map_rep (l : List (Rat × Rat)) : (l.map rep).map pv = l := by
  rw [List.map_map]
  exact (List.map_congr_left fun p _ => pv_rep p).trans (List.map_id l)
theorem sl_rep {l : List (Rat × Rat)} {I : Imm} {v : Value} (h : (slS 6 pcan l).den I v) : (slS 6 pc (l.map rep)).den I v := by
  obtain ⟨a, cap, hv, h1, h2, h3⟩ := h
  refine ⟨a, cap, by rw [List.length_map]; exact hv, by rw [List.length_map]; exact h1, by rw [List.length_map]; exact h2, ?_⟩
  rcases h3 with h3 | ⟨b, o, ha, h4⟩
  · exact .inl (by rw [h3]; rfl)
  · refine .inr ⟨b, o, ha, fun i x hx => ?_⟩
    rw [List.getElem?_map, Option.map_eq_some_iff] at hx
    obtain ⟨p, hp, rfl⟩ := hx
    exact h4 i p hp
theorem ptOk_rep {p : Rat × Rat} {k : Nat} (h1 : Bq p.1 k) (h2 : Bq p.2 k) : PtOk k (rep p) := ⟨⟨lim_dig _, lim_dig _, h1.lens.1, h1.lens.2⟩, lim_dig _, lim_dig _, h2.lens.1, h2.lens.2⟩
theorem vNormL [Tab G] {ps : List ((Bool × List Nat × List Nat) × (Bool × List Nat × List Nat))} {k : Nat} (hk : 0 < k) (hl : ∀ p ∈ ps, PtOk k p) (hs : 2 * k + 11000 ≤ cap) (hxl : ps.length ≤ cap) : PSpec Tryz.prog G 27 [slS 6 id (ps.map pc)] (slS 6 pcan (ps.map pv)) :=
  (vNorm_spec hk hl hs hxl).args ⟨fun _ _ h => sl_pair (f := pc) ps h, trivial⟩
theorem vecWays_spec [Tab G] {b1 c1 : Bool} {l1 d1 m1 e1 : List Nat} (hl1 : Lim l1 ∧ Lim d1) (hm1 : Lim m1 ∧ Lim e1) {b2 c2 : Bool} {l2 d2 m2 e2 : List Nat} (hl2 : Lim l2 ∧ Lim d2) (hm2 : Lim m2 ∧ Lim e2) {b3 c3 : Bool} {l3 d3 m3 e3 : List Nat} (hl3 : Lim l3 ∧ Lim d3) (hm3 : Lim m3 ∧ Lim e3) {bt : Bool} {lt dt : List Nat} (hlt : Lim lt ∧ Lim dt) : PSpec Tryz.prog G 3 [aggS [boolS b1, natS l1, natS d1, boolS c1, natS m1, natS e1], aggS [boolS b2, natS l2, natS d2, boolS c2, natS m2, natS e2], aggS [boolS b3, natS l3, natS d3, boolS c3, natS m3, natS e3], aggS [boolS bt, natS lt, natS dt]] (boolS true) := by
  refine fn_spec Tryz.func3 rfl rfl rfl ?_
  refine T_regionS ?_
  refine Run.one (ok_box rfl rfl) rfl rfl rfl ?_
  refine Run.one (ok_box rfl rfl) rfl rfl rfl ?_
  refine Run.one (ok_box rfl rfl) rfl rfl rfl ?_
  refine Run.one (ok_box rfl rfl) rfl rfl rfl ?_
  refine Run.one (ok_assign rfl rfl) rfl rfl rfl ?_
  refine Run.nil ?_
  refine T_seq ?_
  refine T_regionS ?_
  refine Run.one (ok_load_agg rfl rfl rfl rfl) rfl rfl rfl ?_
  refine Run.one (ok_load_agg rfl rfl rfl rfl) rfl rfl rfl ?_
  refine Run.one (ok_load_agg rfl rfl rfl rfl) rfl rfl rfl ?_
  refine Run.one (ok_buildSlice rfl rfl (by decide) rfl (by simp) (by kernel_rfl) (by kernel_rfl)) rfl rfl rfl ?_
  refine Run.oneB (ok_call rfl rfl ((long_spec (xs := [((b1, l1, d1), (c1, m1, e1)), ((b2, l2, d2), (c2, m2, e2)), ((b3, l3, d3), (c3, m3, e3))])).args ⟨fun _ _ h => sl_pair (f := pc) [((b1, l1, d1), (c1, m1, e1)), ((b2, l2, d2), (c2, m2, e2)), ((b3, l3, d3), (c3, m3, e3))] h, trivial⟩)) rfl rfl rfl (fun h1_4 => ?_) (fun h1_4 => ?_)
  · refine Run.one (ok_move rfl rfl) rfl rfl rfl ?_
    refine Run.no ⟨_, _, rfl, rfl, rfl⟩ rfl rfl ?_
    refine Run.no ⟨_, _, rfl, rfl, rfl⟩ rfl rfl ?_
    refine Run.no ⟨_, _, rfl, rfl, rfl⟩ rfl rfl ?_
    refine Run.no ⟨_, _, rfl, rfl, rfl⟩ rfl rfl ?_
    refine Run.no ⟨_, _, rfl, rfl, rfl⟩ rfl rfl ?_
    refine Run.no ⟨_, _, rfl, rfl, rfl⟩ rfl rfl ?_
    refine Run.no ⟨_, _, rfl, rfl, rfl⟩ rfl rfl ?_
    refine Run.no ⟨_, _, rfl, rfl, rfl⟩ rfl rfl ?_
    refine Run.no ⟨_, _, rfl, rfl, rfl⟩ rfl rfl ?_
    refine Run.one (ok_pick rfl rfl rfl) rfl rfl rfl ?_
    refine Run.nil ?_
    refine T_condT rfl rfl ?_
    refine T_regionS ?_
    refine Run.one (ok_call rfl rfl wakes_spec) rfl rfl rfl ?_
    refine Run.one (ok_assign rfl rfl) rfl rfl rfl ?_
    refine Run.nil ?_
    refine T_ret ?_
    exact ⟨_, [], .one (.tmp rfl), List.nil_sublist _, rfl, rfl⟩
  · refine Run.one (ok_move rfl rfl) rfl rfl rfl ?_
    refine Run.one (ok_fieldAddr rfl rfl rfl) ⟨_, _, rfl, rfl, rfl⟩ rfl rfl ?_
    refine Run.one (ok_fieldAddr rfl rfl rfl) ⟨_, _, rfl, rfl, rfl⟩ rfl rfl ?_
    refine Run.one (ok_load rfl rfl) ⟨_, _, rfl, rfl, rfl⟩ rfl rfl ?_
    refine Run.one (ok_len rfl rfl) ⟨_, _, rfl, rfl, rfl⟩ rfl rfl ?_
    refine Run.one (ok_fieldAddr rfl rfl rfl) ⟨_, _, rfl, rfl, rfl⟩ rfl rfl ?_
    refine Run.one (ok_load rfl rfl) ⟨_, _, rfl, rfl, rfl⟩ rfl rfl ?_
    refine Run.one (ok_len rfl rfl) ⟨_, _, rfl, rfl, rfl⟩ rfl rfl ?_
    refine Run.one (ok_max rfl rfl rfl) ⟨_, _, rfl, rfl, rfl⟩ rfl rfl ?_
    refine Run.one (ok_cmp rfl rfl rfl rfl) ⟨_, _, rfl, rfl, rfl⟩ rfl rfl ?_
    refine Run.one (ok_pick rfl rfl rfl) rfl rfl rfl ?_
    refine Run.nil ?_
    refine T_cond rfl rfl (fun h27 => ?_) (fun h27 => ?_)
    · have k27 := of_decide_eq_true h27
      refine T_regionS ?_
      refine Run.one (ok_call rfl rfl wakes_spec) rfl rfl rfl ?_
      refine Run.one (ok_assign rfl rfl) rfl rfl rfl ?_
      refine Run.nil ?_
      refine T_ret ?_
      exact ⟨_, [], .one (.tmp rfl), List.nil_sublist _, rfl, rfl⟩
    · have k27 := of_decide_eq_false h27
      have hsz : ∀ p ∈ [((b1, l1, d1), (c1, m1, e1)), ((b2, l2, d2), (c2, m2, e2)), ((b3, l3, d3), (c3, m3, e3))], psz p ≤ 3 := fun p hp => Nat.not_lt.1 fun h => of_decide_eq_false h1_4 ⟨p, hp, h⟩
      have s1 : max (max (max l1.length d1.length) m1.length) e1.length ≤ 3 := hsz ((b1, l1, d1), (c1, m1, e1)) (by simp)
      obtain ⟨x1, hxe1⟩ : ∃ x, x = qv (b1, l1, d1) := ⟨_, rfl⟩
      obtain ⟨y1, hye1⟩ : ∃ y, y = qv (c1, m1, e1) := ⟨_, rfl⟩
      have hx1 : IsQ b1 l1 d1 x1 3 := hxe1 ▸ isQ_lim ⟨hl1.1, hl1.2, by omega, by omega⟩ (by decide)
      have hy1 : IsQ c1 m1 e1 y1 3 := hye1 ▸ isQ_lim ⟨hm1.1, hm1.2, by omega, by omega⟩ (by decide)
      have hbx1 := hx1.bq
      have hby1 := hy1.bq
      have s2 : max (max (max l2.length d2.length) m2.length) e2.length ≤ 3 := hsz ((b2, l2, d2), (c2, m2, e2)) (by simp)
      obtain ⟨x2, hxe2⟩ : ∃ x, x = qv (b2, l2, d2) := ⟨_, rfl⟩
      obtain ⟨y2, hye2⟩ : ∃ y, y = qv (c2, m2, e2) := ⟨_, rfl⟩
      have hx2 : IsQ b2 l2 d2 x2 3 := hxe2 ▸ isQ_lim ⟨hl2.1, hl2.2, by omega, by omega⟩ (by decide)
      have hy2 : IsQ c2 m2 e2 y2 3 := hye2 ▸ isQ_lim ⟨hm2.1, hm2.2, by omega, by omega⟩ (by decide)
      have hbx2 := hx2.bq
      have hby2 := hy2.bq
      have s3 : max (max (max l3.length d3.length) m3.length) e3.length ≤ 3 := hsz ((b3, l3, d3), (c3, m3, e3)) (by simp)
      obtain ⟨x3, hxe3⟩ : ∃ x, x = qv (b3, l3, d3) := ⟨_, rfl⟩
      obtain ⟨y3, hye3⟩ : ∃ y, y = qv (c3, m3, e3) := ⟨_, rfl⟩
      have hx3 : IsQ b3 l3 d3 x3 3 := hxe3 ▸ isQ_lim ⟨hl3.1, hl3.2, by omega, by omega⟩ (by decide)
      have hy3 : IsQ c3 m3 e3 y3 3 := hye3 ▸ isQ_lim ⟨hm3.1, hm3.2, by omega, by omega⟩ (by decide)
      have hbx3 := hx3.bq
      have hby3 := hy3.bq
      obtain ⟨t, hte⟩ : ∃ t, t = qv (bt, lt, dt) := ⟨_, rfl⟩
      have ht : IsQ bt lt dt t 3 := hte ▸ isQ_lim ⟨hlt.1, hlt.2, by omega, by omega⟩ (by decide)
      have hbt := ht.bq
      refine T_skip ?_
      refine T_seq ?_
      refine T_drawS 35 (by kernel_rfl) ?_
      refine Run.one (ok_load_agg rfl rfl rfl rfl) rfl rfl rfl ?_
      refine Run.one (ok_load_agg rfl rfl rfl rfl) rfl rfl rfl ?_
      refine Run.one (ok_call rfl rfl (rqOf_spec (n := 0) (q := 0) (by decide) (by decide))) rfl rfl rfl ?_
      refine Run.one (ok_call rfl rfl vAt_spec) rfl rfl rfl ?_
      refine Run.one (ok_load_agg rfl rfl rfl rfl) rfl rfl rfl ?_
      refine Run.one ((ok_call rfl rfl vSame_spec).sub (bool_eq (c := true) (decide_eq_true ⟨by grind, by grind⟩))) rfl rfl rfl ?_
      refine Run.one (ok_not rfl rfl) rfl rfl rfl ?_
      refine Run.one (ok_move rfl rfl) rfl rfl rfl ?_
      refine Run.one (ok_load_agg rfl rfl rfl rfl) ⟨_, _, rfl, rfl, rfl⟩ rfl rfl ?_
      refine Run.one (ok_load_agg rfl rfl rfl rfl) ⟨_, _, rfl, rfl, rfl⟩ rfl rfl ?_
      refine Run.one (ok_call rfl rfl (rqOf_spec (n := 1) (q := 1) (by decide) (by decide))) ⟨_, _, rfl, rfl, rfl⟩ rfl rfl ?_
      refine Run.one (ok_call rfl rfl vAt_spec) ⟨_, _, rfl, rfl, rfl⟩ rfl rfl ?_
      refine Run.one (ok_load_agg rfl rfl rfl rfl) ⟨_, _, rfl, rfl, rfl⟩ rfl rfl ?_
      refine Run.one ((ok_call rfl rfl vSame_spec).sub (bool_eq (c := true) (decide_eq_true ⟨by grind, by grind⟩))) ⟨_, _, rfl, rfl, rfl⟩ rfl rfl ?_
      refine Run.one (ok_not rfl rfl) ⟨_, _, rfl, rfl, rfl⟩ rfl rfl ?_
      refine Run.one (ok_pick rfl rfl rfl) rfl rfl rfl ?_
      refine Run.one (ok_move rfl rfl) rfl rfl rfl ?_
      refine Run.one (ok_load_agg rfl rfl rfl rfl) ⟨_, _, rfl, rfl, rfl⟩ rfl rfl ?_
      refine Run.one (ok_load_agg rfl rfl rfl rfl) ⟨_, _, rfl, rfl, rfl⟩ rfl rfl ?_
      refine Run.one (ok_call rfl rfl vSub_spec) ⟨_, _, rfl, rfl, rfl⟩ rfl rfl ?_
      refine Run.one (ok_load_agg rfl rfl rfl rfl) ⟨_, _, rfl, rfl, rfl⟩ rfl rfl ?_
      refine Run.one (ok_call rfl rfl vAdd_spec) ⟨_, _, rfl, rfl, rfl⟩ rfl rfl ?_
      refine Run.one (ok_load_agg rfl rfl rfl rfl) ⟨_, _, rfl, rfl, rfl⟩ rfl rfl ?_
      refine Run.one ((ok_call rfl rfl vSame_spec).sub (bool_eq (c := true) (decide_eq_true ⟨by grind, by grind⟩))) ⟨_, _, rfl, rfl, rfl⟩ rfl rfl ?_
      refine Run.one (ok_not rfl rfl) ⟨_, _, rfl, rfl, rfl⟩ rfl rfl ?_
      refine Run.one (ok_pick rfl rfl rfl) rfl rfl rfl ?_
      refine Run.one (ok_move rfl rfl) rfl rfl rfl ?_
      refine Run.one (ok_load_agg rfl rfl rfl rfl) ⟨_, _, rfl, rfl, rfl⟩ rfl rfl ?_
      refine Run.one (ok_load_agg rfl rfl rfl rfl) ⟨_, _, rfl, rfl, rfl⟩ rfl rfl ?_
      refine Run.one (ok_call rfl rfl vNeg_spec) ⟨_, _, rfl, rfl, rfl⟩ rfl rfl ?_
      refine Run.one (ok_call rfl rfl vAdd_spec) ⟨_, _, rfl, rfl, rfl⟩ rfl rfl ?_
      refine Run.one (ok_call rfl rfl (vOf_spec (n := 0) (m := 0) (p := 0) (q := 0) (by decide) (by decide) (by decide) (by decide))) ⟨_, _, rfl, rfl, rfl⟩ rfl rfl ?_
      refine Run.one ((ok_call rfl rfl vSame_spec).sub (bool_eq (c := true) (decide_eq_true ⟨by grind, by grind⟩))) ⟨_, _, rfl, rfl, rfl⟩ rfl rfl ?_
      refine Run.one (ok_not rfl rfl) ⟨_, _, rfl, rfl, rfl⟩ rfl rfl ?_
      refine Run.one (ok_pick rfl rfl rfl) rfl rfl rfl ?_
      refine Run.nil ?_
      refine Run.nil ?_
      refine T_condF rfl rfl ?_
      refine T_skip ?_
      refine T_regionS ?_
      refine Run.one (ok_load_agg rfl rfl rfl rfl) rfl rfl rfl ?_
      refine Run.one (ok_load_agg rfl rfl rfl rfl) rfl rfl rfl ?_
      refine Run.one (ok_load_agg rfl rfl rfl rfl) rfl rfl rfl ?_
      refine Run.one (ok_call rfl rfl vAt_spec) rfl rfl rfl ?_
      refine Run.alloc rfl rfl rfl rfl rfl fun b9 => ?_
      refine Run.store 0 rfl rfl rfl rfl rfl rfl rfl rfl rfl ?_
      refine Run.nil ?_
      refine T_seq ?_
      refine T_drawS 20 (by kernel_rfl) ?_
      refine Run.one (ok_load_own_agg 0 rfl rfl rfl rfl rfl) rfl rfl rfl ?_
      refine Run.one (ok_load_agg rfl rfl rfl rfl) rfl rfl rfl ?_
      refine Run.one (ok_call rfl rfl vSub_spec) rfl rfl rfl ?_
      refine Run.one (ok_load_agg rfl rfl rfl rfl) rfl rfl rfl ?_
      refine Run.one (ok_load_agg rfl rfl rfl rfl) rfl rfl rfl ?_
      refine Run.one (ok_call rfl rfl vSub_spec) rfl rfl rfl ?_
      refine Run.one (ok_call rfl rfl vCross_spec) rfl rfl rfl ?_
      refine Run.one ((ok_call rfl rfl rqSign_spec).sub (int_eq (n := 0) (tri_eq.2 (by grind)))) rfl rfl rfl ?_
      refine Run.one (ok_cmp rfl rfl rfl rfl) rfl rfl rfl ?_
      refine Run.one (ok_move rfl rfl) rfl rfl rfl ?_
      refine Run.one (ok_load_agg rfl rfl rfl rfl) ⟨_, _, rfl, rfl, rfl⟩ rfl rfl ?_
      refine Run.one (ok_load_agg rfl rfl rfl rfl) ⟨_, _, rfl, rfl, rfl⟩ rfl rfl ?_
      refine Run.one (ok_call rfl rfl (rqOf_spec (n := 1) (q := 1) (by decide) (by decide))) ⟨_, _, rfl, rfl, rfl⟩ rfl rfl ?_
      refine Run.one (ok_load_agg rfl rfl rfl rfl) ⟨_, _, rfl, rfl, rfl⟩ rfl rfl ?_
      refine Run.one (ok_call rfl rfl rqsub_spec) ⟨_, _, rfl, rfl, rfl⟩ rfl rfl ?_
      refine Run.one (ok_call rfl rfl vAt_spec) ⟨_, _, rfl, rfl, rfl⟩ rfl rfl ?_
      refine Run.one (ok_load_own_agg 0 rfl rfl rfl rfl rfl) ⟨_, _, rfl, rfl, rfl⟩ rfl rfl ?_
      refine Run.one ((ok_call rfl rfl vSame_spec).sub (bool_eq (c := true) (decide_eq_true ⟨by grind, by grind⟩))) ⟨_, _, rfl, rfl, rfl⟩ rfl rfl ?_
      refine Run.one (ok_not rfl rfl) ⟨_, _, rfl, rfl, rfl⟩ rfl rfl ?_
      refine Run.one (ok_pick rfl rfl rfl) rfl rfl rfl ?_
      refine Run.nil ?_
      refine Run.nil ?_
      refine T_condF rfl rfl ?_
      refine T_skip ?_
      refine T_drawAS 8 (by kernel_rfl) rfl rfl ?_
      refine RunE.lat (ok_load_agg rfl rfl rfl rfl) rfl rfl rfl ?_
      refine RunE.lat (ok_load_agg rfl rfl rfl rfl) rfl rfl rfl ?_
      refine RunE.lat (ok_call rfl rfl vFar_spec) rfl rfl rfl ?_
      refine RunE.lat (ok_load_agg rfl rfl rfl rfl) rfl rfl rfl ?_
      refine RunE.lat (ok_load_agg rfl rfl rfl rfl) rfl rfl rfl ?_
      refine RunE.lat (ok_call rfl rfl vFar_spec) rfl rfl rfl ?_
      refine RunE.lat (ok_buildSlice rfl rfl (by decide) rfl (by simp) rfl rfl) rfl rfl rfl ?_
      refine RunE.lat (ok_call rfl rfl rqadd2_spec) rfl rfl rfl ?_
      refine RunE.nil ?_
      refine EffAA.mk1 rfl rfl rfl rfl rfl rfl rfl rfl (by intro h; cases h) rfl rfl rfl fun b10 => ?_
      refine Run.nil ?_
      refine T_seq ?_
      refine T_drawS 27 (by kernel_rfl) ?_
      refine Run.one (ok_load_own_agg 0 rfl rfl rfl rfl rfl) rfl rfl rfl ?_
      refine Run.one (ok_load_agg rfl rfl rfl rfl) rfl rfl rfl ?_
      refine Run.one (ok_load_agg rfl rfl rfl rfl) rfl rfl rfl ?_
      refine Run.one (ok_call rfl rfl vFar_spec) rfl rfl rfl ?_
      refine Run.one (ok_call rfl rfl rqcmp_spec) rfl rfl rfl ?_
      refine Run.one ((ok_cmp rfl rfl rfl rfl).sub (bool_eq (c := false) (tri_nlt (by have g1 := dist_tri x1 x3 x2; have g2 := dist_tri y1 y3 y2; grind)))) rfl rfl rfl ?_
      refine Run.one (ok_move rfl rfl) rfl rfl rfl ?_
      refine Run.one (ok_load_agg rfl rfl rfl rfl) ⟨_, _, rfl, rfl, rfl⟩ rfl rfl ?_
      refine Run.one (ok_load_agg rfl rfl rfl rfl) ⟨_, _, rfl, rfl, rfl⟩ rfl rfl ?_
      refine Run.one (ok_call rfl rfl vFar_spec) ⟨_, _, rfl, rfl, rfl⟩ rfl rfl ?_
      refine Run.one (ok_load_agg rfl rfl rfl rfl) ⟨_, _, rfl, rfl, rfl⟩ rfl rfl ?_
      refine Run.one (ok_load_agg rfl rfl rfl rfl) ⟨_, _, rfl, rfl, rfl⟩ rfl rfl ?_
      refine Run.one (ok_call rfl rfl vFar_spec) ⟨_, _, rfl, rfl, rfl⟩ rfl rfl ?_
      refine Run.one ((ok_call rfl rfl rqsame_spec).sub (bool_eq (c := true) (decide_eq_true (by rw [dist_comm x1, dist_comm y1])))) ⟨_, _, rfl, rfl, rfl⟩ rfl rfl ?_
      refine Run.one (ok_not rfl rfl) ⟨_, _, rfl, rfl, rfl⟩ rfl rfl ?_
      refine Run.one (ok_pick rfl rfl rfl) rfl rfl rfl ?_
      refine Run.one (ok_move rfl rfl) rfl rfl rfl ?_
      refine Run.one (ok_load_agg rfl rfl rfl rfl) ⟨_, _, rfl, rfl, rfl⟩ rfl rfl ?_
      refine Run.one (ok_load_agg rfl rfl rfl rfl) ⟨_, _, rfl, rfl, rfl⟩ rfl rfl ?_
      refine Run.one (ok_call rfl rfl vFar_spec) ⟨_, _, rfl, rfl, rfl⟩ rfl rfl ?_
      refine Run.one (ok_call rfl rfl rqSign_spec) ⟨_, _, rfl, rfl, rfl⟩ rfl rfl ?_
      refine Run.one ((ok_cmp rfl rfl rfl rfl).sub (bool_eq far_zero)) ⟨_, _, rfl, rfl, rfl⟩ rfl rfl ?_
      refine Run.one (ok_load_agg rfl rfl rfl rfl) ⟨_, _, rfl, rfl, rfl⟩ rfl rfl ?_
      refine Run.one (ok_load_agg rfl rfl rfl rfl) ⟨_, _, rfl, rfl, rfl⟩ rfl rfl ?_
      refine Run.one (ok_call rfl rfl vSame_spec) ⟨_, _, rfl, rfl, rfl⟩ rfl rfl ?_
      refine Run.one ((ok_neq_bool rfl rfl rfl Tryz.isBool4).sub (bool_eq (c := false) (by simp))) ⟨_, _, rfl, rfl, rfl⟩ rfl rfl ?_
      refine Run.one (ok_pick rfl rfl rfl) rfl rfl rfl ?_
      refine Run.nil ?_
      refine Run.nil ?_
      refine T_condF rfl rfl ?_
      refine T_skip ?_
      refine T_drawS 10 (by kernel_rfl) ?_
      refine Run.one (ok_load_agg rfl rfl rfl rfl) rfl rfl rfl ?_
      refine Run.one (ok_call rfl rfl rqSign_spec) rfl rfl rfl ?_
      refine Run.oneB (ok_cmp rfl rfl rfl rfl) rfl rfl rfl (fun h11_2 => ?_) (fun h11_2 => ?_)
      · have k11_2 := of_decide_eq_true h11_2
        refine Run.one (ok_move rfl rfl) rfl rfl rfl ?_
        refine Run.one (ok_load_agg rfl rfl rfl rfl) ⟨_, _, rfl, rfl, rfl⟩ rfl rfl ?_
        refine Run.one (ok_call rfl rfl (rqOf_spec (n := 1) (q := 1) (by decide) (by decide))) ⟨_, _, rfl, rfl, rfl⟩ rfl rfl ?_
        refine Run.one (ok_call rfl rfl rqcmp_spec) ⟨_, _, rfl, rfl, rfl⟩ rfl rfl ?_
        refine Run.one (ok_cmp rfl rfl rfl rfl) ⟨_, _, rfl, rfl, rfl⟩ rfl rfl ?_
        refine Run.one (ok_pick rfl rfl rfl) rfl rfl rfl ?_
        refine Run.one (ok_assign rfl rfl) rfl rfl rfl ?_
        refine Run.nil ?_
        refine Run.nil ?_
        refine T_drawS 20 (by kernel_rfl) ?_
        refine Run.one (ok_move rfl rfl) rfl rfl rfl ?_
        refine Run.oneB (ok_not rfl rfl) rfl rfl rfl (fun h12_1 => ?_) (fun h12_1 => ?_)
        · refine Run.one (ok_move rfl rfl) rfl rfl rfl ?_
          refine Run.no ⟨_, _, rfl, rfl, rfl⟩ rfl rfl ?_
          refine Run.no ⟨_, _, rfl, rfl, rfl⟩ rfl rfl ?_
          refine Run.no ⟨_, _, rfl, rfl, rfl⟩ rfl rfl ?_
          refine Run.no ⟨_, _, rfl, rfl, rfl⟩ rfl rfl ?_
          refine Run.no ⟨_, _, rfl, rfl, rfl⟩ rfl rfl ?_
          refine Run.no ⟨_, _, rfl, rfl, rfl⟩ rfl rfl ?_
          refine Run.no ⟨_, _, rfl, rfl, rfl⟩ rfl rfl ?_
          refine Run.no ⟨_, _, rfl, rfl, rfl⟩ rfl rfl ?_
          refine Run.no ⟨_, _, rfl, rfl, rfl⟩ rfl rfl ?_
          refine Run.no ⟨_, _, rfl, rfl, rfl⟩ rfl rfl ?_
          refine Run.no ⟨_, _, rfl, rfl, rfl⟩ rfl rfl ?_
          refine Run.no ⟨_, _, rfl, rfl, rfl⟩ rfl rfl ?_
          refine Run.one (ok_pick rfl rfl rfl) rfl rfl rfl ?_
          refine Run.one (ok_move rfl rfl) rfl rfl rfl ?_
          refine Run.one (ok_call rfl rfl wakes_spec) ⟨_, _, rfl, rfl, rfl⟩ rfl rfl ?_
          refine Run.one (ok_pick rfl rfl rfl) rfl rfl rfl ?_
          refine Run.one (ok_assign rfl rfl) rfl rfl rfl ?_
          refine Run.nil ?_
          refine Run.nil ?_
          refine T_ret ?_
          exact ⟨_, [], .one (.tmp rfl), List.nil_sublist _, rfl, rfl⟩
        · refine Run.one (ok_move rfl rfl) rfl rfl rfl ?_
          refine Run.one (ok_load_agg rfl rfl rfl rfl) ⟨_, _, rfl, rfl, rfl⟩ rfl rfl ?_
          refine Run.one (ok_load_own_agg 1 rfl rfl rfl rfl rfl) ⟨_, _, rfl, rfl, rfl⟩ rfl rfl ?_
          refine Run.one (ok_call rfl rfl vFar_spec) ⟨_, _, rfl, rfl, rfl⟩ rfl rfl ?_
          refine Run.one (ok_load_own_agg 1 rfl rfl rfl rfl rfl) ⟨_, _, rfl, rfl, rfl⟩ rfl rfl ?_
          refine Run.one (ok_load_agg rfl rfl rfl rfl) ⟨_, _, rfl, rfl, rfl⟩ rfl rfl ?_
          refine Run.one (ok_call rfl rfl vFar_spec) ⟨_, _, rfl, rfl, rfl⟩ rfl rfl ?_
          refine Run.one (ok_buildSlice rfl rfl (by decide) rfl (by simp) rfl rfl) ⟨_, _, rfl, rfl, rfl⟩ rfl rfl ?_
          refine Run.one (ok_call rfl rfl rqadd2_spec) ⟨_, _, rfl, rfl, rfl⟩ rfl rfl ?_
          refine Run.one (ok_load_agg rfl rfl rfl rfl) ⟨_, _, rfl, rfl, rfl⟩ rfl rfl ?_
          refine Run.one (ok_load_agg rfl rfl rfl rfl) ⟨_, _, rfl, rfl, rfl⟩ rfl rfl ?_
          refine Run.one (ok_call rfl rfl vFar_spec) ⟨_, _, rfl, rfl, rfl⟩ rfl rfl ?_
          refine Run.one ((ok_call rfl rfl rqsame_spec).sub (bool_eq (c := true) (decide_eq_true (by have h0 := tri_ge0 k11_2; have h1 := tri_le0 (of_decide_eq_true (by simpa using h12_1)); have g1 := dist_mid h0 h1 x1 x2; have g2 := dist_mid h0 h1 y1 y2; grind)))) ⟨_, _, rfl, rfl, rfl⟩ rfl rfl ?_
          refine Run.one (ok_pick rfl rfl rfl) rfl rfl rfl ?_
          refine Run.one (ok_move rfl rfl) rfl rfl rfl ?_
          refine Run.one (ok_call rfl rfl wakes_spec) ⟨_, _, rfl, rfl, rfl⟩ rfl rfl ?_
          refine Run.one (ok_pick rfl rfl rfl) rfl rfl rfl ?_
          refine Run.one (ok_assign rfl rfl) rfl rfl rfl ?_
          refine Run.nil ?_
          refine Run.nil ?_
          refine T_ret ?_
          exact ⟨_, [], .one (.tmp rfl), List.nil_sublist _, rfl, rfl⟩
      · have k11_2 := of_decide_eq_false h11_2
        refine Run.one (ok_move rfl rfl) rfl rfl rfl ?_
        refine Run.no ⟨_, _, rfl, rfl, rfl⟩ rfl rfl ?_
        refine Run.no ⟨_, _, rfl, rfl, rfl⟩ rfl rfl ?_
        refine Run.no ⟨_, _, rfl, rfl, rfl⟩ rfl rfl ?_
        refine Run.no ⟨_, _, rfl, rfl, rfl⟩ rfl rfl ?_
        refine Run.one (ok_pick rfl rfl rfl) rfl rfl rfl ?_
        refine Run.one (ok_assign rfl rfl) rfl rfl rfl ?_
        refine Run.nil ?_
        refine Run.nil ?_
        refine T_drawS 20 (by kernel_rfl) ?_
        refine Run.one (ok_move rfl rfl) rfl rfl rfl ?_
        refine Run.one (ok_not rfl rfl) rfl rfl rfl ?_
        refine Run.one (ok_move rfl rfl) rfl rfl rfl ?_
        refine Run.no ⟨_, _, rfl, rfl, rfl⟩ rfl rfl ?_
        refine Run.no ⟨_, _, rfl, rfl, rfl⟩ rfl rfl ?_
        refine Run.no ⟨_, _, rfl, rfl, rfl⟩ rfl rfl ?_
        refine Run.no ⟨_, _, rfl, rfl, rfl⟩ rfl rfl ?_
        refine Run.no ⟨_, _, rfl, rfl, rfl⟩ rfl rfl ?_
        refine Run.no ⟨_, _, rfl, rfl, rfl⟩ rfl rfl ?_
        refine Run.no ⟨_, _, rfl, rfl, rfl⟩ rfl rfl ?_
        refine Run.no ⟨_, _, rfl, rfl, rfl⟩ rfl rfl ?_
        refine Run.no ⟨_, _, rfl, rfl, rfl⟩ rfl rfl ?_
        refine Run.no ⟨_, _, rfl, rfl, rfl⟩ rfl rfl ?_
        refine Run.no ⟨_, _, rfl, rfl, rfl⟩ rfl rfl ?_
        refine Run.no ⟨_, _, rfl, rfl, rfl⟩ rfl rfl ?_
        refine Run.one (ok_pick rfl rfl rfl) rfl rfl rfl ?_
        refine Run.one (ok_move rfl rfl) rfl rfl rfl ?_
        refine Run.one (ok_call rfl rfl wakes_spec) ⟨_, _, rfl, rfl, rfl⟩ rfl rfl ?_
        refine Run.one (ok_pick rfl rfl rfl) rfl rfl rfl ?_
        refine Run.one (ok_assign rfl rfl) rfl rfl rfl ?_
        refine Run.nil ?_
        refine Run.nil ?_
        refine T_ret ?_
        exact ⟨_, [], .one (.tmp rfl), List.nil_sublist _, rfl, rfl⟩
theorem vecOrder_spec [Tab G] {b1 c1 : Bool} {l1 d1 m1 e1 : List Nat} (hl1 : Lim l1 ∧ Lim d1) (hm1 : Lim m1 ∧ Lim e1) {b2 c2 : Bool} {l2 d2 m2 e2 : List Nat} (hl2 : Lim l2 ∧ Lim d2) (hm2 : Lim m2 ∧ Lim e2) {b3 c3 : Bool} {l3 d3 m3 e3 : List Nat} (hl3 : Lim l3 ∧ Lim d3) (hm3 : Lim m3 ∧ Lim e3) : PSpec Tryz.prog G 5 [aggS [boolS b1, natS l1, natS d1, boolS c1, natS m1, natS e1], aggS [boolS b2, natS l2, natS d2, boolS c2, natS m2, natS e2], aggS [boolS b3, natS l3, natS d3, boolS c3, natS m3, natS e3]] (boolS true) := by
  refine fn_spec Tryz.func5 rfl rfl rfl ?_
  refine T_regionS ?_
  refine Run.one (ok_box rfl rfl) rfl rfl rfl ?_
  refine Run.one (ok_box rfl rfl) rfl rfl rfl ?_
  refine Run.one (ok_box rfl rfl) rfl rfl rfl ?_
  refine Run.one (ok_assign rfl rfl) rfl rfl rfl ?_
  refine Run.nil ?_
  refine T_seq ?_
  refine T_regionS ?_
  refine Run.one (ok_load_agg rfl rfl rfl rfl) rfl rfl rfl ?_
  refine Run.one (ok_load_agg rfl rfl rfl rfl) rfl rfl rfl ?_
  refine Run.one (ok_load_agg rfl rfl rfl rfl) rfl rfl rfl ?_
  refine Run.one (ok_buildSlice rfl rfl (by decide) rfl (by simp) (by kernel_rfl) (by kernel_rfl)) rfl rfl rfl ?_
  refine Run.one (ok_call rfl rfl ((long_spec (xs := [((b1, l1, d1), (c1, m1, e1)), ((b2, l2, d2), (c2, m2, e2)), ((b3, l3, d3), (c3, m3, e3))])).args ⟨fun _ _ h => sl_pair (f := pc) [((b1, l1, d1), (c1, m1, e1)), ((b2, l2, d2), (c2, m2, e2)), ((b3, l3, d3), (c3, m3, e3))] h, trivial⟩)) rfl rfl rfl ?_
  refine Run.nil ?_
  refine T_cond rfl rfl (fun h13 => ?_) (fun h13 => ?_)
  · refine T_regionS ?_
    refine Run.one (ok_call rfl rfl wakes_spec) rfl rfl rfl ?_
    refine Run.one (ok_assign rfl rfl) rfl rfl rfl ?_
    refine Run.nil ?_
    refine T_ret ?_
    exact ⟨_, [], .one (.tmp rfl), List.nil_sublist _, rfl, rfl⟩
  · have hsz : ∀ p ∈ [((b1, l1, d1), (c1, m1, e1)), ((b2, l2, d2), (c2, m2, e2)), ((b3, l3, d3), (c3, m3, e3))], psz p ≤ 3 := fun p hp => Nat.not_lt.1 fun h => of_decide_eq_false h13 ⟨p, hp, h⟩
    have s1 : max (max (max l1.length d1.length) m1.length) e1.length ≤ 3 := hsz ((b1, l1, d1), (c1, m1, e1)) (by simp)
    obtain ⟨x1, hxe1⟩ : ∃ x, x = qv (b1, l1, d1) := ⟨_, rfl⟩
    obtain ⟨y1, hye1⟩ : ∃ y, y = qv (c1, m1, e1) := ⟨_, rfl⟩
    have hx1 : IsQ b1 l1 d1 x1 3 := hxe1 ▸ isQ_lim ⟨hl1.1, hl1.2, by omega, by omega⟩ (by decide)
    have hy1 : IsQ c1 m1 e1 y1 3 := hye1 ▸ isQ_lim ⟨hm1.1, hm1.2, by omega, by omega⟩ (by decide)
    have hbx1 := hx1.bq
    have hby1 := hy1.bq
    have s2 : max (max (max l2.length d2.length) m2.length) e2.length ≤ 3 := hsz ((b2, l2, d2), (c2, m2, e2)) (by simp)
    obtain ⟨x2, hxe2⟩ : ∃ x, x = qv (b2, l2, d2) := ⟨_, rfl⟩
    obtain ⟨y2, hye2⟩ : ∃ y, y = qv (c2, m2, e2) := ⟨_, rfl⟩
    have hx2 : IsQ b2 l2 d2 x2 3 := hxe2 ▸ isQ_lim ⟨hl2.1, hl2.2, by omega, by omega⟩ (by decide)
    have hy2 : IsQ c2 m2 e2 y2 3 := hye2 ▸ isQ_lim ⟨hm2.1, hm2.2, by omega, by omega⟩ (by decide)
    have hbx2 := hx2.bq
    have hby2 := hy2.bq
    have s3 : max (max (max l3.length d3.length) m3.length) e3.length ≤ 3 := hsz ((b3, l3, d3), (c3, m3, e3)) (by simp)
    obtain ⟨x3, hxe3⟩ : ∃ x, x = qv (b3, l3, d3) := ⟨_, rfl⟩
    obtain ⟨y3, hye3⟩ : ∃ y, y = qv (c3, m3, e3) := ⟨_, rfl⟩
    have hx3 : IsQ b3 l3 d3 x3 3 := hxe3 ▸ isQ_lim ⟨hl3.1, hl3.2, by omega, by omega⟩ (by decide)
    have hy3 : IsQ c3 m3 e3 y3 3 := hye3 ▸ isQ_lim ⟨hm3.1, hm3.2, by omega, by omega⟩ (by decide)
    have hbx3 := hx3.bq
    have hby3 := hy3.bq
    obtain ⟨n, hn⟩ : ∃ n, n = triP x1 y1 x2 y2 := ⟨_, rfl⟩
    have hnb := triP_bd x1 y1 x2 y2
    rw [← hn] at hnb
    refine T_skip ?_
    refine T_regionS ?_
    refine Run.one (ok_load_agg rfl rfl rfl rfl) rfl rfl rfl ?_
    refine Run.one (ok_load_agg rfl rfl rfl rfl) rfl rfl rfl ?_
    refine Run.one ((ok_call rfl rfl vCmp_spec).sub (int_eq (n := n) hn.symm)) rfl rfl rfl ?_
    refine Run.one (ok_assign rfl rfl) rfl rfl rfl ?_
    refine Run.nil ?_
    refine T_seq ?_
    refine T_drawS 42 (by kernel_rfl) ?_
    refine Run.one (ok_move rfl rfl) rfl rfl rfl ?_
    refine Run.one ((ok_cmp rfl rfl rfl rfl).sub (bool_eq (c := false) (decide_eq_false (by omega)))) rfl rfl rfl ?_
    refine Run.one (ok_move rfl rfl) rfl rfl rfl ?_
    refine Run.one (ok_move rfl rfl) ⟨_, _, rfl, rfl, rfl⟩ rfl rfl ?_
    refine Run.one ((ok_cmp rfl rfl rfl rfl).sub (bool_eq (c := false) (decide_eq_false (by omega)))) ⟨_, _, rfl, rfl, rfl⟩ rfl rfl ?_
    refine Run.one (ok_pick rfl rfl rfl) rfl rfl rfl ?_
    refine Run.one (ok_move rfl rfl) rfl rfl rfl ?_
    refine Run.one (ok_load_agg rfl rfl rfl rfl) ⟨_, _, rfl, rfl, rfl⟩ rfl rfl ?_
    refine Run.one (ok_load_agg rfl rfl rfl rfl) ⟨_, _, rfl, rfl, rfl⟩ rfl rfl ?_
    refine Run.one ((ok_call rfl rfl vCmp_spec).sub (int_eq (n := -n) (by rw [triP_anti, hn]))) ⟨_, _, rfl, rfl, rfl⟩ rfl rfl ?_
    refine Run.one (ok_move rfl rfl) ⟨_, _, rfl, rfl, rfl⟩ rfl rfl ?_
    refine Run.one ((ok_neg rfl rfl).sub (int_eq (n := -n) ((wrap_i64 (by omega) (by omega)).trans (by omega)))) ⟨_, _, rfl, rfl, rfl⟩ rfl rfl ?_
    refine Run.one ((ok_cmp rfl rfl rfl rfl).sub (bool_eq (c := false) (by simp))) ⟨_, _, rfl, rfl, rfl⟩ rfl rfl ?_
    refine Run.one (ok_pick rfl rfl rfl) rfl rfl rfl ?_
    refine Run.one (ok_move rfl rfl) rfl rfl rfl ?_
    refine Run.one (ok_move rfl rfl) ⟨_, _, rfl, rfl, rfl⟩ rfl rfl ?_
    refine Run.one ((ok_cmp rfl rfl rfl rfl).sub (bool_eq (c := decide (x1 = x2 ∧ y1 = y2)) (by rw [hn]; exact triP_zero))) ⟨_, _, rfl, rfl, rfl⟩ rfl rfl ?_
    refine Run.one (ok_load_agg rfl rfl rfl rfl) ⟨_, _, rfl, rfl, rfl⟩ rfl rfl ?_
    refine Run.one (ok_load_agg rfl rfl rfl rfl) ⟨_, _, rfl, rfl, rfl⟩ rfl rfl ?_
    refine Run.one (ok_call rfl rfl vSame_spec) ⟨_, _, rfl, rfl, rfl⟩ rfl rfl ?_
    refine Run.one ((ok_neq_bool rfl rfl rfl Tryz.isBool4).sub (bool_eq (c := false) (by simp))) ⟨_, _, rfl, rfl, rfl⟩ rfl rfl ?_
    refine Run.one (ok_pick rfl rfl rfl) rfl rfl rfl ?_
    refine Run.one (ok_move rfl rfl) rfl rfl rfl ?_
    refine Run.one (ok_load_agg rfl rfl rfl rfl) ⟨_, _, rfl, rfl, rfl⟩ rfl rfl ?_
    refine Run.one (ok_load_agg rfl rfl rfl rfl) ⟨_, _, rfl, rfl, rfl⟩ rfl rfl ?_
    refine Run.one (ok_call rfl rfl vAdd_spec) ⟨_, _, rfl, rfl, rfl⟩ rfl rfl ?_
    refine Run.one (ok_load_agg rfl rfl rfl rfl) ⟨_, _, rfl, rfl, rfl⟩ rfl rfl ?_
    refine Run.one (ok_load_agg rfl rfl rfl rfl) ⟨_, _, rfl, rfl, rfl⟩ rfl rfl ?_
    refine Run.one (ok_call rfl rfl vAdd_spec) ⟨_, _, rfl, rfl, rfl⟩ rfl rfl ?_
    refine Run.one ((ok_call rfl rfl vCmp_spec).sub (int_eq (n := n) (by rw [triP_shift, hn]))) ⟨_, _, rfl, rfl, rfl⟩ rfl rfl ?_
    refine Run.one (ok_move rfl rfl) ⟨_, _, rfl, rfl, rfl⟩ rfl rfl ?_
    refine Run.one ((ok_cmp rfl rfl rfl rfl).sub (bool_eq (c := false) (by simp))) ⟨_, _, rfl, rfl, rfl⟩ rfl rfl ?_
    refine Run.one (ok_pick rfl rfl rfl) rfl rfl rfl ?_
    refine Run.one (ok_move rfl rfl) rfl rfl rfl ?_
    refine Run.one (ok_load_agg rfl rfl rfl rfl) ⟨_, _, rfl, rfl, rfl⟩ rfl rfl ?_
    refine Run.one (ok_call rfl rfl vNeg_spec) ⟨_, _, rfl, rfl, rfl⟩ rfl rfl ?_
    refine Run.one (ok_load_agg rfl rfl rfl rfl) ⟨_, _, rfl, rfl, rfl⟩ rfl rfl ?_
    refine Run.one (ok_call rfl rfl vNeg_spec) ⟨_, _, rfl, rfl, rfl⟩ rfl rfl ?_
    refine Run.one ((ok_call rfl rfl vCmp_spec).sub (int_eq (n := n) (by rw [triP_negs, hn]))) ⟨_, _, rfl, rfl, rfl⟩ rfl rfl ?_
    refine Run.one (ok_move rfl rfl) ⟨_, _, rfl, rfl, rfl⟩ rfl rfl ?_
    refine Run.one ((ok_cmp rfl rfl rfl rfl).sub (bool_eq (c := false) (by simp))) ⟨_, _, rfl, rfl, rfl⟩ rfl rfl ?_
    refine Run.one (ok_pick rfl rfl rfl) rfl rfl rfl ?_
    refine Run.nil ?_
    refine Run.nil ?_
    refine T_condF rfl rfl ?_
    refine T_skip ?_
    refine T_seq ?_
    refine T_regionS ?_
    refine Run.one (ok_move rfl rfl) rfl rfl rfl ?_
    refine Run.oneB (ok_cmp rfl rfl rfl rfl) rfl rfl rfl (fun h6_1 => ?_) (fun h6_1 => ?_)
    · have k6_1 := of_decide_eq_true h6_1
      refine Run.one (ok_move rfl rfl) rfl rfl rfl ?_
      refine Run.one (ok_load_agg rfl rfl rfl rfl) ⟨_, _, rfl, rfl, rfl⟩ rfl rfl ?_
      refine Run.one (ok_load_agg rfl rfl rfl rfl) ⟨_, _, rfl, rfl, rfl⟩ rfl rfl ?_
      refine Run.one (ok_call rfl rfl vCmp_spec) ⟨_, _, rfl, rfl, rfl⟩ rfl rfl ?_
      refine Run.one (ok_cmp rfl rfl rfl rfl) ⟨_, _, rfl, rfl, rfl⟩ rfl rfl ?_
      refine Run.oneB (ok_pick rfl rfl rfl) rfl rfl rfl (fun h6_7 => ?_) (fun h6_7 => ?_)
      · have k6_7 := of_decide_eq_true h6_7
        refine Run.one (ok_move rfl rfl) rfl rfl rfl ?_
        refine Run.one (ok_load_agg rfl rfl rfl rfl) ⟨_, _, rfl, rfl, rfl⟩ rfl rfl ?_
        refine Run.one (ok_load_agg rfl rfl rfl rfl) ⟨_, _, rfl, rfl, rfl⟩ rfl rfl ?_
        refine Run.one (ok_call rfl rfl vCmp_spec) ⟨_, _, rfl, rfl, rfl⟩ rfl rfl ?_
        refine Run.one ((ok_cmp rfl rfl rfl rfl).sub (bool_eq (c := false) (decide_eq_false (by have := triP_trans (hn ▸ k6_1) k6_7; omega)))) ⟨_, _, rfl, rfl, rfl⟩ rfl rfl ?_
        refine Run.one (ok_pick rfl rfl rfl) rfl rfl rfl ?_
        refine Run.nil ?_
        refine T_condF rfl rfl ?_
        refine T_skip ?_
        refine T_regionS ?_
        refine Run.one (ok_load_agg rfl rfl rfl rfl) rfl rfl rfl ?_
        refine Run.one (ok_load_agg rfl rfl rfl rfl) rfl rfl rfl ?_
        refine Run.one (ok_load_agg rfl rfl rfl rfl) rfl rfl rfl ?_
        refine Run.one (ok_buildSlice rfl rfl (by decide) rfl (by simp) (by kernel_rfl) (by kernel_rfl)) rfl rfl rfl ?_
        refine Run.one ((ok_call rfl rfl (vNormL (ps := [((b1, l1, d1), (c1, m1, e1)), ((b2, l2, d2), (c2, m2, e2)), ((b3, l3, d3), (c3, m3, e3))]) (k := 3) (by decide) (by intro p hp; simp only [List.mem_cons, List.not_mem_nil, or_false] at hp; rcases hp with rfl | rfl | rfl; exact ⟨⟨hl1.1, hl1.2, hx1.len, hx1.lend⟩, hm1.1, hm1.2, hy1.len, hy1.lend⟩; exact ⟨⟨hl2.1, hl2.2, hx2.len, hx2.lend⟩, hm2.1, hm2.2, hy2.len, hy2.lend⟩; exact ⟨⟨hl3.1, hl3.2, hx3.len, hx3.lend⟩, hm3.1, hm3.2, hy3.len, hy3.lend⟩) (by decide) (show 3 ≤ cap by decide))).sub (show ∀ I v, (slS 6 pcan ([((b1, l1, d1), (c1, m1, e1)), ((b2, l2, d2), (c2, m2, e2)), ((b3, l3, d3), (c3, m3, e3))].map pv)).den I v → (slS 6 pcan [(x1, y1), (x2, y2), (x3, y3)]).den I v from fun _ _ h => by rw [show [((b1, l1, d1), (c1, m1, e1)), ((b2, l2, d2), (c2, m2, e2)), ((b3, l3, d3), (c3, m3, e3))].map pv = [(x1, y1), (x2, y2), (x3, y3)] by simp only [List.map, pv, ← hxe1, ← hye1, ← hxe2, ← hye2, ← hxe3, ← hye3]] at h; exact h)) rfl rfl rfl ?_
        refine Run.one (ok_assign rfl rfl) rfl rfl rfl ?_
        refine Run.nil ?_
        refine T_drawS 32 (by kernel_rfl) ?_
        refine Run.one (ok_move rfl rfl) rfl rfl rfl ?_
        refine Run.one (ok_len rfl rfl) rfl rfl rfl ?_
        refine Run.one ((ok_cmp rfl rfl rfl rfl).sub (bool_eq (c := true) (by simp))) rfl rfl rfl ?_
        refine Run.one (ok_move rfl rfl) rfl rfl rfl ?_
        refine Run.one (ok_move rfl rfl) ⟨_, _, rfl, rfl, rfl⟩ rfl rfl ?_
        refine Run.one (ok_indexAddr rfl rfl rfl (by omega) (y := (x1, y1)) (rfl)) ⟨_, _, rfl, rfl, rfl⟩ rfl rfl ?_
        refine Run.one (ok_load_agg rfl rfl rfl rfl) ⟨_, _, rfl, rfl, rfl⟩ rfl rfl ?_
        refine Run.one (ok_load_agg rfl rfl rfl rfl) ⟨_, _, rfl, rfl, rfl⟩ rfl rfl ?_
        refine Run.one ((ok_call rfl rfl vSame_spec).sub (bool_eq (c := true) (decide_eq_true ⟨rfl, rfl⟩))) ⟨_, _, rfl, rfl, rfl⟩ rfl rfl ?_
        refine Run.one (ok_pick rfl rfl rfl) rfl rfl rfl ?_
        refine Run.one (ok_move rfl rfl) rfl rfl rfl ?_
        refine Run.one (ok_move rfl rfl) ⟨_, _, rfl, rfl, rfl⟩ rfl rfl ?_
        refine Run.one (ok_indexAddr rfl rfl rfl (by omega) (y := (x2, y2)) (rfl)) ⟨_, _, rfl, rfl, rfl⟩ rfl rfl ?_
        refine Run.one (ok_load_agg rfl rfl rfl rfl) ⟨_, _, rfl, rfl, rfl⟩ rfl rfl ?_
        refine Run.one (ok_load_agg rfl rfl rfl rfl) ⟨_, _, rfl, rfl, rfl⟩ rfl rfl ?_
        refine Run.one ((ok_call rfl rfl vSame_spec).sub (bool_eq (c := true) (decide_eq_true ⟨rfl, rfl⟩))) ⟨_, _, rfl, rfl, rfl⟩ rfl rfl ?_
        refine Run.one (ok_pick rfl rfl rfl) rfl rfl rfl ?_
        refine Run.one (ok_move rfl rfl) rfl rfl rfl ?_
        refine Run.one ((ok_move rfl rfl).sub (fun _ _ h => sl_rep h)) ⟨_, _, rfl, rfl, rfl⟩ rfl rfl ?_
        refine Run.one ((ok_call rfl rfl (vNorm_spec (xs := [(x1, y1), (x2, y2), (x3, y3)].map rep) (k := 3) (by decide) (by intro p hp; simp only [List.map, List.mem_cons, List.not_mem_nil, or_false] at hp; rcases hp with rfl | rfl | rfl; exact ptOk_rep (p := (x1, y1)) hbx1 hby1; exact ptOk_rep (p := (x2, y2)) hbx2 hby2; exact ptOk_rep (p := (x3, y3)) hbx3 hby3) (by decide) (show 3 ≤ cap by decide))).sub (show ∀ I v, (slS 6 pcan (([(x1, y1), (x2, y2), (x3, y3)].map rep).map pv)).den I v → (slS 6 pcan [(x1, y1), (x2, y2), (x3, y3)]).den I v from fun _ _ h => by rw [map_rep] at h; exact h)) ⟨_, _, rfl, rfl, rfl⟩ rfl rfl ?_
        refine Run.one (ok_move rfl rfl) ⟨_, _, rfl, rfl, rfl⟩ rfl rfl ?_
        refine Run.one ((ok_call rfl rfl rpAll_spec).sub (bool_eq (c := true) (decide_eq_true rfl))) ⟨_, _, rfl, rfl, rfl⟩ rfl rfl ?_
        refine Run.one (ok_pick rfl rfl rfl) rfl rfl rfl ?_
        refine Run.one (ok_move rfl rfl) rfl rfl rfl ?_
        refine Run.one ((ok_call rfl rfl ((vNorm_spec (xs := []) (k := 3) (by decide) (fun p hp => by cases hp) (by decide) (by decide)).args ⟨fun I v h => by have h : v = .slice none 0 0 := h; subst h; exact nil_sl, trivial⟩))) ⟨_, _, rfl, rfl, rfl⟩ rfl rfl ?_
        refine Run.one (ok_len rfl rfl) ⟨_, _, rfl, rfl, rfl⟩ rfl rfl ?_
        refine Run.one ((ok_cmp rfl rfl rfl rfl).sub (bool_eq (c := true) rfl)) ⟨_, _, rfl, rfl, rfl⟩ rfl rfl ?_
        refine Run.one (ok_pick rfl rfl rfl) rfl rfl rfl ?_
        refine Run.one (ok_move rfl rfl) rfl rfl rfl ?_
        refine Run.one (ok_call rfl rfl wakes_spec) ⟨_, _, rfl, rfl, rfl⟩ rfl rfl ?_
        refine Run.one (ok_pick rfl rfl rfl) rfl rfl rfl ?_
        refine Run.one (ok_assign rfl rfl) rfl rfl rfl ?_
        refine Run.nil ?_
        refine Run.nil ?_
        refine T_ret ?_
        exact ⟨_, [], .one (.tmp rfl), List.nil_sublist _, rfl, rfl⟩
      · have k6_7 := of_decide_eq_false h6_7
        refine Run.one (ok_move rfl rfl) rfl rfl rfl ?_
        refine Run.no ⟨_, _, rfl, rfl, rfl⟩ rfl rfl ?_
        refine Run.no ⟨_, _, rfl, rfl, rfl⟩ rfl rfl ?_
        refine Run.no ⟨_, _, rfl, rfl, rfl⟩ rfl rfl ?_
        refine Run.no ⟨_, _, rfl, rfl, rfl⟩ rfl rfl ?_
        refine Run.one (ok_pick rfl rfl rfl) rfl rfl rfl ?_
        refine Run.nil ?_
        refine T_condF rfl rfl ?_
        refine T_skip ?_
        refine T_regionS ?_
        refine Run.one (ok_load_agg rfl rfl rfl rfl) rfl rfl rfl ?_
        refine Run.one (ok_load_agg rfl rfl rfl rfl) rfl rfl rfl ?_
        refine Run.one (ok_load_agg rfl rfl rfl rfl) rfl rfl rfl ?_
        refine Run.one (ok_buildSlice rfl rfl (by decide) rfl (by simp) (by kernel_rfl) (by kernel_rfl)) rfl rfl rfl ?_
        refine Run.one ((ok_call rfl rfl (vNormL (ps := [((b1, l1, d1), (c1, m1, e1)), ((b2, l2, d2), (c2, m2, e2)), ((b3, l3, d3), (c3, m3, e3))]) (k := 3) (by decide) (by intro p hp; simp only [List.mem_cons, List.not_mem_nil, or_false] at hp; rcases hp with rfl | rfl | rfl; exact ⟨⟨hl1.1, hl1.2, hx1.len, hx1.lend⟩, hm1.1, hm1.2, hy1.len, hy1.lend⟩; exact ⟨⟨hl2.1, hl2.2, hx2.len, hx2.lend⟩, hm2.1, hm2.2, hy2.len, hy2.lend⟩; exact ⟨⟨hl3.1, hl3.2, hx3.len, hx3.lend⟩, hm3.1, hm3.2, hy3.len, hy3.lend⟩) (by decide) (show 3 ≤ cap by decide))).sub (show ∀ I v, (slS 6 pcan ([((b1, l1, d1), (c1, m1, e1)), ((b2, l2, d2), (c2, m2, e2)), ((b3, l3, d3), (c3, m3, e3))].map pv)).den I v → (slS 6 pcan [(x1, y1), (x2, y2), (x3, y3)]).den I v from fun _ _ h => by rw [show [((b1, l1, d1), (c1, m1, e1)), ((b2, l2, d2), (c2, m2, e2)), ((b3, l3, d3), (c3, m3, e3))].map pv = [(x1, y1), (x2, y2), (x3, y3)] by simp only [List.map, pv, ← hxe1, ← hye1, ← hxe2, ← hye2, ← hxe3, ← hye3]] at h; exact h)) rfl rfl rfl ?_
        refine Run.one (ok_assign rfl rfl) rfl rfl rfl ?_
        refine Run.nil ?_
        refine T_drawS 32 (by kernel_rfl) ?_
        refine Run.one (ok_move rfl rfl) rfl rfl rfl ?_
        refine Run.one (ok_len rfl rfl) rfl rfl rfl ?_
        refine Run.one ((ok_cmp rfl rfl rfl rfl).sub (bool_eq (c := true) (by simp))) rfl rfl rfl ?_
        refine Run.one (ok_move rfl rfl) rfl rfl rfl ?_
        refine Run.one (ok_move rfl rfl) ⟨_, _, rfl, rfl, rfl⟩ rfl rfl ?_
        refine Run.one (ok_indexAddr rfl rfl rfl (by omega) (y := (x1, y1)) (rfl)) ⟨_, _, rfl, rfl, rfl⟩ rfl rfl ?_
        refine Run.one (ok_load_agg rfl rfl rfl rfl) ⟨_, _, rfl, rfl, rfl⟩ rfl rfl ?_
        refine Run.one (ok_load_agg rfl rfl rfl rfl) ⟨_, _, rfl, rfl, rfl⟩ rfl rfl ?_
        refine Run.one ((ok_call rfl rfl vSame_spec).sub (bool_eq (c := true) (decide_eq_true ⟨rfl, rfl⟩))) ⟨_, _, rfl, rfl, rfl⟩ rfl rfl ?_
        refine Run.one (ok_pick rfl rfl rfl) rfl rfl rfl ?_
        refine Run.one (ok_move rfl rfl) rfl rfl rfl ?_
        refine Run.one (ok_move rfl rfl) ⟨_, _, rfl, rfl, rfl⟩ rfl rfl ?_
        refine Run.one (ok_indexAddr rfl rfl rfl (by omega) (y := (x2, y2)) (rfl)) ⟨_, _, rfl, rfl, rfl⟩ rfl rfl ?_
        refine Run.one (ok_load_agg rfl rfl rfl rfl) ⟨_, _, rfl, rfl, rfl⟩ rfl rfl ?_
        refine Run.one (ok_load_agg rfl rfl rfl rfl) ⟨_, _, rfl, rfl, rfl⟩ rfl rfl ?_
        refine Run.one ((ok_call rfl rfl vSame_spec).sub (bool_eq (c := true) (decide_eq_true ⟨rfl, rfl⟩))) ⟨_, _, rfl, rfl, rfl⟩ rfl rfl ?_
        refine Run.one (ok_pick rfl rfl rfl) rfl rfl rfl ?_
        refine Run.one (ok_move rfl rfl) rfl rfl rfl ?_
        refine Run.one ((ok_move rfl rfl).sub (fun _ _ h => sl_rep h)) ⟨_, _, rfl, rfl, rfl⟩ rfl rfl ?_
        refine Run.one ((ok_call rfl rfl (vNorm_spec (xs := [(x1, y1), (x2, y2), (x3, y3)].map rep) (k := 3) (by decide) (by intro p hp; simp only [List.map, List.mem_cons, List.not_mem_nil, or_false] at hp; rcases hp with rfl | rfl | rfl; exact ptOk_rep (p := (x1, y1)) hbx1 hby1; exact ptOk_rep (p := (x2, y2)) hbx2 hby2; exact ptOk_rep (p := (x3, y3)) hbx3 hby3) (by decide) (show 3 ≤ cap by decide))).sub (show ∀ I v, (slS 6 pcan (([(x1, y1), (x2, y2), (x3, y3)].map rep).map pv)).den I v → (slS 6 pcan [(x1, y1), (x2, y2), (x3, y3)]).den I v from fun _ _ h => by rw [map_rep] at h; exact h)) ⟨_, _, rfl, rfl, rfl⟩ rfl rfl ?_
        refine Run.one (ok_move rfl rfl) ⟨_, _, rfl, rfl, rfl⟩ rfl rfl ?_
        refine Run.one ((ok_call rfl rfl rpAll_spec).sub (bool_eq (c := true) (decide_eq_true rfl))) ⟨_, _, rfl, rfl, rfl⟩ rfl rfl ?_
        refine Run.one (ok_pick rfl rfl rfl) rfl rfl rfl ?_
        refine Run.one (ok_move rfl rfl) rfl rfl rfl ?_
        refine Run.one ((ok_call rfl rfl ((vNorm_spec (xs := []) (k := 3) (by decide) (fun p hp => by cases hp) (by decide) (by decide)).args ⟨fun I v h => by have h : v = .slice none 0 0 := h; subst h; exact nil_sl, trivial⟩))) ⟨_, _, rfl, rfl, rfl⟩ rfl rfl ?_
        refine Run.one (ok_len rfl rfl) ⟨_, _, rfl, rfl, rfl⟩ rfl rfl ?_
        refine Run.one ((ok_cmp rfl rfl rfl rfl).sub (bool_eq (c := true) rfl)) ⟨_, _, rfl, rfl, rfl⟩ rfl rfl ?_
        refine Run.one (ok_pick rfl rfl rfl) rfl rfl rfl ?_
        refine Run.one (ok_move rfl rfl) rfl rfl rfl ?_
        refine Run.one (ok_call rfl rfl wakes_spec) ⟨_, _, rfl, rfl, rfl⟩ rfl rfl ?_
        refine Run.one (ok_pick rfl rfl rfl) rfl rfl rfl ?_
        refine Run.one (ok_assign rfl rfl) rfl rfl rfl ?_
        refine Run.nil ?_
        refine Run.nil ?_
        refine T_ret ?_
        exact ⟨_, [], .one (.tmp rfl), List.nil_sublist _, rfl, rfl⟩
    · have k6_1 := of_decide_eq_false h6_1
      refine Run.one (ok_move rfl rfl) rfl rfl rfl ?_
      refine Run.no ⟨_, _, rfl, rfl, rfl⟩ rfl rfl ?_
      refine Run.no ⟨_, _, rfl, rfl, rfl⟩ rfl rfl ?_
      refine Run.no ⟨_, _, rfl, rfl, rfl⟩ rfl rfl ?_
      refine Run.no ⟨_, _, rfl, rfl, rfl⟩ rfl rfl ?_
      refine Run.one (ok_pick rfl rfl rfl) rfl rfl rfl ?_
      refine Run.one (ok_move rfl rfl) rfl rfl rfl ?_
      refine Run.no ⟨_, _, rfl, rfl, rfl⟩ rfl rfl ?_
      refine Run.no ⟨_, _, rfl, rfl, rfl⟩ rfl rfl ?_
      refine Run.no ⟨_, _, rfl, rfl, rfl⟩ rfl rfl ?_
      refine Run.no ⟨_, _, rfl, rfl, rfl⟩ rfl rfl ?_
      refine Run.one (ok_pick rfl rfl rfl) rfl rfl rfl ?_
      refine Run.nil ?_
      refine T_condF rfl rfl ?_
      refine T_skip ?_
      refine T_regionS ?_
      refine Run.one (ok_load_agg rfl rfl rfl rfl) rfl rfl rfl ?_
      refine Run.one (ok_load_agg rfl rfl rfl rfl) rfl rfl rfl ?_
      refine Run.one (ok_load_agg rfl rfl rfl rfl) rfl rfl rfl ?_
      refine Run.one (ok_buildSlice rfl rfl (by decide) rfl (by simp) (by kernel_rfl) (by kernel_rfl)) rfl rfl rfl ?_
      refine Run.one ((ok_call rfl rfl (vNormL (ps := [((b1, l1, d1), (c1, m1, e1)), ((b2, l2, d2), (c2, m2, e2)), ((b3, l3, d3), (c3, m3, e3))]) (k := 3) (by decide) (by intro p hp; simp only [List.mem_cons, List.not_mem_nil, or_false] at hp; rcases hp with rfl | rfl | rfl; exact ⟨⟨hl1.1, hl1.2, hx1.len, hx1.lend⟩, hm1.1, hm1.2, hy1.len, hy1.lend⟩; exact ⟨⟨hl2.1, hl2.2, hx2.len, hx2.lend⟩, hm2.1, hm2.2, hy2.len, hy2.lend⟩; exact ⟨⟨hl3.1, hl3.2, hx3.len, hx3.lend⟩, hm3.1, hm3.2, hy3.len, hy3.lend⟩) (by decide) (show 3 ≤ cap by decide))).sub (show ∀ I v, (slS 6 pcan ([((b1, l1, d1), (c1, m1, e1)), ((b2, l2, d2), (c2, m2, e2)), ((b3, l3, d3), (c3, m3, e3))].map pv)).den I v → (slS 6 pcan [(x1, y1), (x2, y2), (x3, y3)]).den I v from fun _ _ h => by rw [show [((b1, l1, d1), (c1, m1, e1)), ((b2, l2, d2), (c2, m2, e2)), ((b3, l3, d3), (c3, m3, e3))].map pv = [(x1, y1), (x2, y2), (x3, y3)] by simp only [List.map, pv, ← hxe1, ← hye1, ← hxe2, ← hye2, ← hxe3, ← hye3]] at h; exact h)) rfl rfl rfl ?_
      refine Run.one (ok_assign rfl rfl) rfl rfl rfl ?_
      refine Run.nil ?_
      refine T_drawS 32 (by kernel_rfl) ?_
      refine Run.one (ok_move rfl rfl) rfl rfl rfl ?_
      refine Run.one (ok_len rfl rfl) rfl rfl rfl ?_
      refine Run.one ((ok_cmp rfl rfl rfl rfl).sub (bool_eq (c := true) (by simp))) rfl rfl rfl ?_
      refine Run.one (ok_move rfl rfl) rfl rfl rfl ?_
      refine Run.one (ok_move rfl rfl) ⟨_, _, rfl, rfl, rfl⟩ rfl rfl ?_
      refine Run.one (ok_indexAddr rfl rfl rfl (by omega) (y := (x1, y1)) (rfl)) ⟨_, _, rfl, rfl, rfl⟩ rfl rfl ?_
      refine Run.one (ok_load_agg rfl rfl rfl rfl) ⟨_, _, rfl, rfl, rfl⟩ rfl rfl ?_
      refine Run.one (ok_load_agg rfl rfl rfl rfl) ⟨_, _, rfl, rfl, rfl⟩ rfl rfl ?_
      refine Run.one ((ok_call rfl rfl vSame_spec).sub (bool_eq (c := true) (decide_eq_true ⟨rfl, rfl⟩))) ⟨_, _, rfl, rfl, rfl⟩ rfl rfl ?_
      refine Run.one (ok_pick rfl rfl rfl) rfl rfl rfl ?_
      refine Run.one (ok_move rfl rfl) rfl rfl rfl ?_
      refine Run.one (ok_move rfl rfl) ⟨_, _, rfl, rfl, rfl⟩ rfl rfl ?_
      refine Run.one (ok_indexAddr rfl rfl rfl (by omega) (y := (x2, y2)) (rfl)) ⟨_, _, rfl, rfl, rfl⟩ rfl rfl ?_
      refine Run.one (ok_load_agg rfl rfl rfl rfl) ⟨_, _, rfl, rfl, rfl⟩ rfl rfl ?_
      refine Run.one (ok_load_agg rfl rfl rfl rfl) ⟨_, _, rfl, rfl, rfl⟩ rfl rfl ?_
      refine Run.one ((ok_call rfl rfl vSame_spec).sub (bool_eq (c := true) (decide_eq_true ⟨rfl, rfl⟩))) ⟨_, _, rfl, rfl, rfl⟩ rfl rfl ?_
      refine Run.one (ok_pick rfl rfl rfl) rfl rfl rfl ?_
      refine Run.one (ok_move rfl rfl) rfl rfl rfl ?_
      refine Run.one ((ok_move rfl rfl).sub (fun _ _ h => sl_rep h)) ⟨_, _, rfl, rfl, rfl⟩ rfl rfl ?_
      refine Run.one ((ok_call rfl rfl (vNorm_spec (xs := [(x1, y1), (x2, y2), (x3, y3)].map rep) (k := 3) (by decide) (by intro p hp; simp only [List.map, List.mem_cons, List.not_mem_nil, or_false] at hp; rcases hp with rfl | rfl | rfl; exact ptOk_rep (p := (x1, y1)) hbx1 hby1; exact ptOk_rep (p := (x2, y2)) hbx2 hby2; exact ptOk_rep (p := (x3, y3)) hbx3 hby3) (by decide) (show 3 ≤ cap by decide))).sub (show ∀ I v, (slS 6 pcan (([(x1, y1), (x2, y2), (x3, y3)].map rep).map pv)).den I v → (slS 6 pcan [(x1, y1), (x2, y2), (x3, y3)]).den I v from fun _ _ h => by rw [map_rep] at h; exact h)) ⟨_, _, rfl, rfl, rfl⟩ rfl rfl ?_
      refine Run.one (ok_move rfl rfl) ⟨_, _, rfl, rfl, rfl⟩ rfl rfl ?_
      refine Run.one ((ok_call rfl rfl rpAll_spec).sub (bool_eq (c := true) (decide_eq_true rfl))) ⟨_, _, rfl, rfl, rfl⟩ rfl rfl ?_
      refine Run.one (ok_pick rfl rfl rfl) rfl rfl rfl ?_
      refine Run.one (ok_move rfl rfl) rfl rfl rfl ?_
      refine Run.one ((ok_call rfl rfl ((vNorm_spec (xs := []) (k := 3) (by decide) (fun p hp => by cases hp) (by decide) (by decide)).args ⟨fun I v h => by have h : v = .slice none 0 0 := h; subst h; exact nil_sl, trivial⟩))) ⟨_, _, rfl, rfl, rfl⟩ rfl rfl ?_
      refine Run.one (ok_len rfl rfl) ⟨_, _, rfl, rfl, rfl⟩ rfl rfl ?_
      refine Run.one ((ok_cmp rfl rfl rfl rfl).sub (bool_eq (c := true) rfl)) ⟨_, _, rfl, rfl, rfl⟩ rfl rfl ?_
      refine Run.one (ok_pick rfl rfl rfl) rfl rfl rfl ?_
      refine Run.one (ok_move rfl rfl) rfl rfl rfl ?_
      refine Run.one (ok_call rfl rfl wakes_spec) ⟨_, _, rfl, rfl, rfl⟩ rfl rfl ?_
      refine Run.one (ok_pick rfl rfl rfl) rfl rfl rfl ?_
      refine Run.one (ok_assign rfl rfl) rfl rfl rfl ?_
      refine Run.nil ?_
      refine Run.nil ?_
      refine T_ret ?_
      exact ⟨_, [], .one (.tmp rfl), List.nil_sublist _, rfl, rfl⟩
theorem vecTells_spec [Tab G] {b1 c1 : Bool} {l1 d1 m1 e1 : List Nat} (hl1 : Lim l1 ∧ Lim d1) (hm1 : Lim m1 ∧ Lim e1) {b2 c2 : Bool} {l2 d2 m2 e2 : List Nat} (hl2 : Lim l2 ∧ Lim d2) (hm2 : Lim m2 ∧ Lim e2) {bt : Bool} {lt dt : List Nat} (hlt : Lim lt ∧ Lim dt) {xs : List ((Bool × List Nat × List Nat) × (Bool × List Nat × List Nat))} (hxs : ∀ p ∈ xs, (Lim p.1.2.1 ∧ Lim p.1.2.2) ∧ Lim p.2.2.1 ∧ Lim p.2.2.2) {u v : Int} (hu1 : -9223372036854775808 ≤ u) (hu2 : u ≤ 9223372036854775807) (hv1 : -9223372036854775808 ≤ v) (hv2 : v ≤ 9223372036854775807) : PSpec Tryz.prog G 6 [aggS [boolS b1, natS l1, natS d1, boolS c1, natS m1, natS e1], aggS [boolS b2, natS l2, natS d2, boolS c2, natS m2, natS e2], aggS [boolS bt, natS lt, natS dt], slS 6 pc xs, intS .i64 u, intS .i64 v] (boolS true) := by
  refine fn_spec Tryz.func6 rfl rfl rfl ?_
  refine T_regionS ?_
  refine Run.one (ok_box rfl rfl) rfl rfl rfl ?_
  refine Run.one (ok_box rfl rfl) rfl rfl rfl ?_
  refine Run.one (ok_box rfl rfl) rfl rfl rfl ?_
  refine Run.one (ok_assign rfl rfl) rfl rfl rfl ?_
  refine Run.nil ?_
  refine T_seq ?_
  refine T_regionS ?_
  refine Run.one (ok_load_agg rfl rfl rfl rfl) rfl rfl rfl ?_
  refine Run.one (ok_load_agg rfl rfl rfl rfl) rfl rfl rfl ?_
  refine Run.one (ok_buildSlice rfl rfl (by decide) rfl (by simp) rfl rfl) rfl rfl rfl ?_
  refine Run.oneB (ok_call rfl rfl ((rpGreat_spec (xs := [((b1, l1, d1), (c1, m1, e1)), ((b2, l2, d2), (c2, m2, e2))])).args ⟨fun _ _ h => sl_pair (f := pc) [((b1, l1, d1), (c1, m1, e1)), ((b2, l2, d2), (c2, m2, e2))] h, trivial⟩)) rfl rfl rfl (fun h1_3 => ?_) (fun h1_3 => ?_)
  · refine Run.one (ok_move rfl rfl) rfl rfl rfl ?_
    refine Run.no ⟨_, _, rfl, rfl, rfl⟩ rfl rfl ?_
    refine Run.no ⟨_, _, rfl, rfl, rfl⟩ rfl rfl ?_
    refine Run.one (ok_pick rfl rfl rfl) rfl rfl rfl ?_
    refine Run.one (ok_move rfl rfl) rfl rfl rfl ?_
    refine Run.no ⟨_, _, rfl, rfl, rfl⟩ rfl rfl ?_
    refine Run.no ⟨_, _, rfl, rfl, rfl⟩ rfl rfl ?_
    refine Run.one (ok_pick rfl rfl rfl) rfl rfl rfl ?_
    refine Run.nil ?_
    refine T_condT rfl rfl ?_
    refine T_regionS ?_
    refine Run.one (ok_call rfl rfl wakes_spec) rfl rfl rfl ?_
    refine Run.one (ok_assign rfl rfl) rfl rfl rfl ?_
    refine Run.nil ?_
    refine T_ret ?_
    exact ⟨_, [], .one (.tmp rfl), List.nil_sublist _, rfl, rfl⟩
  · refine Run.one (ok_move rfl rfl) rfl rfl rfl ?_
    refine Run.one (ok_move rfl rfl) ⟨_, _, rfl, rfl, rfl⟩ rfl rfl ?_
    refine Run.one (ok_call rfl rfl rpGreat_spec) ⟨_, _, rfl, rfl, rfl⟩ rfl rfl ?_
    refine Run.oneB (ok_pick rfl rfl rfl) rfl rfl rfl (fun h1_7 => ?_) (fun h1_7 => ?_)
    · refine Run.one (ok_move rfl rfl) rfl rfl rfl ?_
      refine Run.no ⟨_, _, rfl, rfl, rfl⟩ rfl rfl ?_
      refine Run.no ⟨_, _, rfl, rfl, rfl⟩ rfl rfl ?_
      refine Run.one (ok_pick rfl rfl rfl) rfl rfl rfl ?_
      refine Run.nil ?_
      refine T_condT rfl rfl ?_
      refine T_regionS ?_
      refine Run.one (ok_call rfl rfl wakes_spec) rfl rfl rfl ?_
      refine Run.one (ok_assign rfl rfl) rfl rfl rfl ?_
      refine Run.nil ?_
      refine T_ret ?_
      exact ⟨_, [], .one (.tmp rfl), List.nil_sublist _, rfl, rfl⟩
    · refine Run.one (ok_move rfl rfl) rfl rfl rfl ?_
      refine Run.one (ok_load_agg rfl rfl rfl rfl) ⟨_, _, rfl, rfl, rfl⟩ rfl rfl ?_
      refine Run.one (ok_call rfl rfl great_spec) ⟨_, _, rfl, rfl, rfl⟩ rfl rfl ?_
      refine Run.one (ok_pick rfl rfl rfl) rfl rfl rfl ?_
      refine Run.nil ?_
      refine T_cond rfl rfl (fun h24 => ?_) (fun h24 => ?_)
      · refine T_regionS ?_
        refine Run.one (ok_call rfl rfl wakes_spec) rfl rfl rfl ?_
        refine Run.one (ok_assign rfl rfl) rfl rfl rfl ?_
        refine Run.nil ?_
        refine T_ret ?_
        exact ⟨_, [], .one (.tmp rfl), List.nil_sublist _, rfl, rfl⟩
      · have hsz : ∀ p ∈ [((b1, l1, d1), (c1, m1, e1)), ((b2, l2, d2), (c2, m2, e2))], psz p ≤ 6 := fun p hp => Nat.not_lt.1 fun h => of_decide_eq_false h1_3 (.inr ⟨p, hp, h⟩)
        have hxz : ∀ p ∈ xs, PtOk 6 p := fun p hp => by
          have g1 : psz p ≤ 6 := Nat.not_lt.1 fun h => of_decide_eq_false h1_7 (.inr ⟨p, hp, h⟩)
          have g2 := hxs p hp
          simp only [psz] at g1
          exact ⟨⟨g2.1.1, g2.1.2, by omega, by omega⟩, g2.2.1, g2.2.2, by omega, by omega⟩
        have hxl : xs.length ≤ cap := by have := of_decide_eq_false h1_7; unfold cap; omega
        have htz := of_decide_eq_false h24
        have s1 : max (max (max l1.length d1.length) m1.length) e1.length ≤ 6 := hsz ((b1, l1, d1), (c1, m1, e1)) (by simp)
        obtain ⟨x1, hxe1⟩ : ∃ x, x = qv (b1, l1, d1) := ⟨_, rfl⟩
        obtain ⟨y1, hye1⟩ : ∃ y, y = qv (c1, m1, e1) := ⟨_, rfl⟩
        have hx1 : IsQ b1 l1 d1 x1 6 := hxe1 ▸ isQ_lim ⟨hl1.1, hl1.2, by omega, by omega⟩ (by decide)
        have hy1 : IsQ c1 m1 e1 y1 6 := hye1 ▸ isQ_lim ⟨hm1.1, hm1.2, by omega, by omega⟩ (by decide)
        have hbx1 := hx1.bq
        have hby1 := hy1.bq
        have s2 : max (max (max l2.length d2.length) m2.length) e2.length ≤ 6 := hsz ((b2, l2, d2), (c2, m2, e2)) (by simp)
        obtain ⟨x2, hxe2⟩ : ∃ x, x = qv (b2, l2, d2) := ⟨_, rfl⟩
        obtain ⟨y2, hye2⟩ : ∃ y, y = qv (c2, m2, e2) := ⟨_, rfl⟩
        have hx2 : IsQ b2 l2 d2 x2 6 := hxe2 ▸ isQ_lim ⟨hl2.1, hl2.2, by omega, by omega⟩ (by decide)
        have hy2 : IsQ c2 m2 e2 y2 6 := hye2 ▸ isQ_lim ⟨hm2.1, hm2.2, by omega, by omega⟩ (by decide)
        have hbx2 := hx2.bq
        have hby2 := hy2.bq
        obtain ⟨t, hte⟩ : ∃ t, t = qv (bt, lt, dt) := ⟨_, rfl⟩
        have ht : IsQ bt lt dt t 6 := hte ▸ isQ_lim ⟨hlt.1, hlt.2, by omega, by omega⟩ (by decide)
        have hbt := ht.bq
        refine T_skip ?_
        refine T_seq ?_
        refine T_drawS 58 (by kernel_rfl) ?_
        refine Run.one (ok_load_agg rfl rfl rfl rfl) rfl rfl rfl ?_
        refine Run.one (ok_load_agg rfl rfl rfl rfl) rfl rfl rfl ?_
        refine Run.one (ok_call rfl rfl vAdd_spec) rfl rfl rfl ?_
        refine Run.one (ok_load_agg rfl rfl rfl rfl) rfl rfl rfl ?_
        refine Run.one (ok_load_agg rfl rfl rfl rfl) rfl rfl rfl ?_
        refine Run.one (ok_call rfl rfl rpAdd_spec) rfl rfl rfl ?_
        refine Run.one ((ok_call rfl rfl rpAlike_spec).sub (bool_eq (c := true) (decide_eq_true ⟨rfl, rfl⟩))) rfl rfl rfl ?_
        refine Run.one (ok_not rfl rfl) rfl rfl rfl ?_
        refine Run.one (ok_move rfl rfl) rfl rfl rfl ?_
        refine Run.one (ok_load_agg rfl rfl rfl rfl) ⟨_, _, rfl, rfl, rfl⟩ rfl rfl ?_
        refine Run.one (ok_load_agg rfl rfl rfl rfl) ⟨_, _, rfl, rfl, rfl⟩ rfl rfl ?_
        refine Run.one (ok_call rfl rfl vSub_spec) ⟨_, _, rfl, rfl, rfl⟩ rfl rfl ?_
        refine Run.one (ok_load_agg rfl rfl rfl rfl) ⟨_, _, rfl, rfl, rfl⟩ rfl rfl ?_
        refine Run.one (ok_load_agg rfl rfl rfl rfl) ⟨_, _, rfl, rfl, rfl⟩ rfl rfl ?_
        refine Run.one (ok_call rfl rfl rpSub_spec) ⟨_, _, rfl, rfl, rfl⟩ rfl rfl ?_
        refine Run.one ((ok_call rfl rfl rpAlike_spec).sub (bool_eq (c := true) (decide_eq_true ⟨rfl, rfl⟩))) ⟨_, _, rfl, rfl, rfl⟩ rfl rfl ?_
        refine Run.one (ok_not rfl rfl) ⟨_, _, rfl, rfl, rfl⟩ rfl rfl ?_
        refine Run.one (ok_pick rfl rfl rfl) rfl rfl rfl ?_
        refine Run.one (ok_move rfl rfl) rfl rfl rfl ?_
        refine Run.one (ok_load_agg rfl rfl rfl rfl) ⟨_, _, rfl, rfl, rfl⟩ rfl rfl ?_
        refine Run.one (ok_call rfl rfl vNeg_spec) ⟨_, _, rfl, rfl, rfl⟩ rfl rfl ?_
        refine Run.one (ok_load_agg rfl rfl rfl rfl) ⟨_, _, rfl, rfl, rfl⟩ rfl rfl ?_
        refine Run.one (ok_call rfl rfl rpNeg_spec) ⟨_, _, rfl, rfl, rfl⟩ rfl rfl ?_
        refine Run.one ((ok_call rfl rfl rpAlike_spec).sub (bool_eq (c := true) (decide_eq_true ⟨rfl, rfl⟩))) ⟨_, _, rfl, rfl, rfl⟩ rfl rfl ?_
        refine Run.one (ok_not rfl rfl) ⟨_, _, rfl, rfl, rfl⟩ rfl rfl ?_
        refine Run.one (ok_pick rfl rfl rfl) rfl rfl rfl ?_
        refine Run.one (ok_move rfl rfl) rfl rfl rfl ?_
        refine Run.one (ok_load_agg rfl rfl rfl rfl) ⟨_, _, rfl, rfl, rfl⟩ rfl rfl ?_
        refine Run.one (ok_load_agg rfl rfl rfl rfl) ⟨_, _, rfl, rfl, rfl⟩ rfl rfl ?_
        refine Run.one (ok_call rfl rfl vScale_spec) ⟨_, _, rfl, rfl, rfl⟩ rfl rfl ?_
        refine Run.one (ok_load_agg rfl rfl rfl rfl) ⟨_, _, rfl, rfl, rfl⟩ rfl rfl ?_
        refine Run.one (ok_load_agg rfl rfl rfl rfl) ⟨_, _, rfl, rfl, rfl⟩ rfl rfl ?_
        refine Run.one (ok_call rfl rfl rpScale_spec) ⟨_, _, rfl, rfl, rfl⟩ rfl rfl ?_
        refine Run.one ((ok_call rfl rfl rpAlike_spec).sub (bool_eq (c := true) (decide_eq_true ⟨rfl, rfl⟩))) ⟨_, _, rfl, rfl, rfl⟩ rfl rfl ?_
        refine Run.one (ok_not rfl rfl) ⟨_, _, rfl, rfl, rfl⟩ rfl rfl ?_
        refine Run.one (ok_pick rfl rfl rfl) rfl rfl rfl ?_
        refine Run.one (ok_move rfl rfl) rfl rfl rfl ?_
        refine Run.one (ok_load_agg rfl rfl rfl rfl) ⟨_, _, rfl, rfl, rfl⟩ rfl rfl ?_
        refine Run.one (ok_load_agg rfl rfl rfl rfl) ⟨_, _, rfl, rfl, rfl⟩ rfl rfl ?_
        refine Run.one (ok_load_agg rfl rfl rfl rfl) ⟨_, _, rfl, rfl, rfl⟩ rfl rfl ?_
        refine Run.one (ok_call rfl rfl vAt_spec) ⟨_, _, rfl, rfl, rfl⟩ rfl rfl ?_
        refine Run.one (ok_load_agg rfl rfl rfl rfl) ⟨_, _, rfl, rfl, rfl⟩ rfl rfl ?_
        refine Run.one (ok_load_agg rfl rfl rfl rfl) ⟨_, _, rfl, rfl, rfl⟩ rfl rfl ?_
        refine Run.one (ok_load_agg rfl rfl rfl rfl) ⟨_, _, rfl, rfl, rfl⟩ rfl rfl ?_
        refine Run.one (ok_call rfl rfl rpAt_spec) ⟨_, _, rfl, rfl, rfl⟩ rfl rfl ?_
        refine Run.one ((ok_call rfl rfl rpAlike_spec).sub (bool_eq (c := true) (decide_eq_true ⟨rfl, rfl⟩))) ⟨_, _, rfl, rfl, rfl⟩ rfl rfl ?_
        refine Run.one (ok_not rfl rfl) ⟨_, _, rfl, rfl, rfl⟩ rfl rfl ?_
        refine Run.one (ok_pick rfl rfl rfl) rfl rfl rfl ?_
        refine Run.one (ok_move rfl rfl) rfl rfl rfl ?_
        refine Run.one (ok_move rfl rfl) ⟨_, _, rfl, rfl, rfl⟩ rfl rfl ?_
        refine Run.one (ok_move rfl rfl) ⟨_, _, rfl, rfl, rfl⟩ rfl rfl ?_
        refine Run.one (ok_call rfl rfl (vOf_spec hu1 hu2 hv1 hv2)) ⟨_, _, rfl, rfl, rfl⟩ rfl rfl ?_
        refine Run.one (ok_move rfl rfl) ⟨_, _, rfl, rfl, rfl⟩ rfl rfl ?_
        refine Run.one (ok_move rfl rfl) ⟨_, _, rfl, rfl, rfl⟩ rfl rfl ?_
        refine Run.one (ok_call rfl rfl (rpOf_spec hu1 hu2 hv1 hv2)) ⟨_, _, rfl, rfl, rfl⟩ rfl rfl ?_
        refine Run.one ((ok_call rfl rfl rpAlike_spec).sub (bool_eq (c := true) (decide_eq_true ⟨rfl, rfl⟩))) ⟨_, _, rfl, rfl, rfl⟩ rfl rfl ?_
        refine Run.one (ok_not rfl rfl) ⟨_, _, rfl, rfl, rfl⟩ rfl rfl ?_
        refine Run.one (ok_pick rfl rfl rfl) rfl rfl rfl ?_
        refine Run.nil ?_
        refine Run.nil ?_
        refine T_condF rfl rfl ?_
        refine T_skip ?_
        refine T_drawS 54 (by kernel_rfl) ?_
        refine Run.one (ok_load_agg rfl rfl rfl rfl) rfl rfl rfl ?_
        refine Run.one (ok_load_agg rfl rfl rfl rfl) rfl rfl rfl ?_
        refine Run.one (ok_call rfl rfl vCross_spec) rfl rfl rfl ?_
        refine Run.one (ok_load_agg rfl rfl rfl rfl) rfl rfl rfl ?_
        refine Run.one (ok_load_agg rfl rfl rfl rfl) rfl rfl rfl ?_
        refine Run.one (ok_call rfl rfl rpCross_spec) rfl rfl rfl ?_
        refine Run.one ((ok_call rfl rfl toldq_spec).sub (bool_eq (c := true) (decide_eq_true rfl))) rfl rfl rfl ?_
        refine Run.one (ok_move rfl rfl) rfl rfl rfl ?_
        refine Run.one (ok_load_agg rfl rfl rfl rfl) ⟨_, _, rfl, rfl, rfl⟩ rfl rfl ?_
        refine Run.one (ok_load_agg rfl rfl rfl rfl) ⟨_, _, rfl, rfl, rfl⟩ rfl rfl ?_
        refine Run.one (ok_call rfl rfl vDot_spec) ⟨_, _, rfl, rfl, rfl⟩ rfl rfl ?_
        refine Run.one (ok_load_agg rfl rfl rfl rfl) ⟨_, _, rfl, rfl, rfl⟩ rfl rfl ?_
        refine Run.one (ok_load_agg rfl rfl rfl rfl) ⟨_, _, rfl, rfl, rfl⟩ rfl rfl ?_
        refine Run.one (ok_call rfl rfl rpDot_spec) ⟨_, _, rfl, rfl, rfl⟩ rfl rfl ?_
        refine Run.one ((ok_call rfl rfl toldq_spec).sub (bool_eq (c := true) (decide_eq_true rfl))) ⟨_, _, rfl, rfl, rfl⟩ rfl rfl ?_
        refine Run.one (ok_pick rfl rfl rfl) rfl rfl rfl ?_
        refine Run.one (ok_move rfl rfl) rfl rfl rfl ?_
        refine Run.one (ok_load_agg rfl rfl rfl rfl) ⟨_, _, rfl, rfl, rfl⟩ rfl rfl ?_
        refine Run.one (ok_load_agg rfl rfl rfl rfl) ⟨_, _, rfl, rfl, rfl⟩ rfl rfl ?_
        refine Run.one (ok_call rfl rfl vFar_spec) ⟨_, _, rfl, rfl, rfl⟩ rfl rfl ?_
        refine Run.one (ok_load_agg rfl rfl rfl rfl) ⟨_, _, rfl, rfl, rfl⟩ rfl rfl ?_
        refine Run.one (ok_load_agg rfl rfl rfl rfl) ⟨_, _, rfl, rfl, rfl⟩ rfl rfl ?_
        refine Run.one (ok_call rfl rfl rpFar_spec) ⟨_, _, rfl, rfl, rfl⟩ rfl rfl ?_
        refine Run.one ((ok_call rfl rfl toldq_spec).sub (bool_eq (c := true) (decide_eq_true rfl))) ⟨_, _, rfl, rfl, rfl⟩ rfl rfl ?_
        refine Run.one (ok_pick rfl rfl rfl) rfl rfl rfl ?_
        refine Run.one (ok_move rfl rfl) rfl rfl rfl ?_
        refine Run.one (ok_load_agg rfl rfl rfl rfl) ⟨_, _, rfl, rfl, rfl⟩ rfl rfl ?_
        refine Run.one (ok_load_agg rfl rfl rfl rfl) ⟨_, _, rfl, rfl, rfl⟩ rfl rfl ?_
        refine Run.one (ok_call rfl rfl vCmp_spec) ⟨_, _, rfl, rfl, rfl⟩ rfl rfl ?_
        refine Run.one (ok_load_agg rfl rfl rfl rfl) ⟨_, _, rfl, rfl, rfl⟩ rfl rfl ?_
        refine Run.one (ok_load_agg rfl rfl rfl rfl) ⟨_, _, rfl, rfl, rfl⟩ rfl rfl ?_
        refine Run.one (ok_call rfl rfl rpCmp_spec) ⟨_, _, rfl, rfl, rfl⟩ rfl rfl ?_
        refine Run.one ((ok_cmp rfl rfl rfl rfl).sub (bool_eq (c := true) (by simp))) ⟨_, _, rfl, rfl, rfl⟩ rfl rfl ?_
        refine Run.one (ok_pick rfl rfl rfl) rfl rfl rfl ?_
        refine Run.one (ok_move rfl rfl) rfl rfl rfl ?_
        refine Run.one (ok_load_agg rfl rfl rfl rfl) ⟨_, _, rfl, rfl, rfl⟩ rfl rfl ?_
        refine Run.one (ok_load_agg rfl rfl rfl rfl) ⟨_, _, rfl, rfl, rfl⟩ rfl rfl ?_
        refine Run.one (ok_call rfl rfl vSame_spec) ⟨_, _, rfl, rfl, rfl⟩ rfl rfl ?_
        refine Run.one (ok_load_agg rfl rfl rfl rfl) ⟨_, _, rfl, rfl, rfl⟩ rfl rfl ?_
        refine Run.one (ok_load_agg rfl rfl rfl rfl) ⟨_, _, rfl, rfl, rfl⟩ rfl rfl ?_
        refine Run.one (ok_call rfl rfl rpSame_spec) ⟨_, _, rfl, rfl, rfl⟩ rfl rfl ?_
        refine Run.one ((ok_eql_bool rfl rfl rfl Tryz.isBool4).sub (bool_eq (c := true) (by simp))) ⟨_, _, rfl, rfl, rfl⟩ rfl rfl ?_
        refine Run.one (ok_pick rfl rfl rfl) rfl rfl rfl ?_
        refine Run.one (ok_move rfl rfl) rfl rfl rfl ?_
        refine Run.one (ok_move rfl rfl) ⟨_, _, rfl, rfl, rfl⟩ rfl rfl ?_
        refine Run.one (ok_call rfl rfl (vNorm_spec (k := 6) (by decide) hxz (by decide) hxl)) ⟨_, _, rfl, rfl, rfl⟩ rfl rfl ?_
        refine Run.one (ok_move rfl rfl) ⟨_, _, rfl, rfl, rfl⟩ rfl rfl ?_
        refine Run.one (ok_call rfl rfl (rpNorm_spec (k := 6) (by decide) hxz (by decide) hxl)) ⟨_, _, rfl, rfl, rfl⟩ rfl rfl ?_
        refine Run.one ((ok_call rfl rfl rpAll_spec).sub (bool_eq (c := true) (decide_eq_true rfl))) ⟨_, _, rfl, rfl, rfl⟩ rfl rfl ?_
        refine Run.one (ok_pick rfl rfl rfl) rfl rfl rfl ?_
        refine Run.one (ok_move rfl rfl) rfl rfl rfl ?_
        refine Run.one (ok_call rfl rfl wakes_spec) ⟨_, _, rfl, rfl, rfl⟩ rfl rfl ?_
        refine Run.one (ok_pick rfl rfl rfl) rfl rfl rfl ?_
        refine Run.one (ok_assign rfl rfl) rfl rfl rfl ?_
        refine Run.nil ?_
        refine Run.nil ?_
        refine T_ret ?_
        exact ⟨_, [], .one (.tmp rfl), List.nil_sublist _, rfl, rfl⟩
end Go.Proofs
