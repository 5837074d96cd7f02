/- Sides: rat.Sign, rat.Same, side. -/
import Derived.Test.YtendklcoeengaaaGreatDoorSny
import Derived.Test.YtendklcoeengaaaGreatDoorSv1
namespace Go.Proofs
open Go Go.Sv Num
variable {G : Imm}
/-- twice the area of three points -/
def crs (x1 y1 x2 y2 x3 y3 : Rat) : Rat := (x2 - x1) * (y3 - y1) - (y2 - y1) * (x3 - x1)
abbrev btw (a b r : Rat) : Prop := (a ≤ r ∧ r ≤ b) ∨ (b ≤ r ∧ r ≤ a)
abbrev onP (x1 y1 x2 y2 x3 y3 : Rat) : Prop := crs x1 y1 x2 y2 x3 y3 = 0 ∧ btw x1 x2 x3 ∧ btw y1 y2 y3
theorem crs_ring (x1 y1 x2 y2 x3 y3 : Rat) : crs x2 y2 x3 y3 x1 y1 = crs x1 y1 x2 y2 x3 y3 := by unfold crs; grind
theorem crs_swap (x1 y1 x2 y2 x3 y3 : Rat) : crs x2 y2 x1 y1 x3 y3 = -crs x1 y1 x2 y2 x3 y3 := by unfold crs; grind
theorem crs_swap2 (x1 y1 x2 y2 x3 y3 : Rat) : crs x1 y1 x3 y3 x2 y2 = -crs x1 y1 x2 y2 x3 y3 := by unfold crs; grind
theorem crs_same (x1 y1 x3 y3 : Rat) : crs x1 y1 x1 y1 x3 y3 = 0 := by unfold crs; grind
theorem crs_end (x1 y1 x2 y2 : Rat) : crs x1 y1 x2 y2 x2 y2 = 0 := by unfold crs; grind
theorem crs_end0 (x1 y1 x2 y2 : Rat) : crs x1 y1 x2 y2 x1 y1 = 0 := by unfold crs; grind
theorem crs_shift (x1 y1 x2 y2 x3 y3 u v : Rat) : crs (x1 + u) (y1 + v) (x2 + u) (y2 + v) (x3 + u) (y3 + v) = crs x1 y1 x2 y2 x3 y3 := by unfold crs; grind
theorem crs_at (x1 y1 x2 y2 t : Rat) : crs x1 y1 x2 y2 (x1 + (x2 - x1) * t) (y1 + (y2 - y1) * t) = 0 := by unfold crs; grind
theorem btw_shift (a b r u : Rat) : btw (a + u) (b + u) (r + u) ↔ btw a b r := by
  constructor <;> intro h <;> rcases h with ⟨h1, h2⟩ | ⟨h1, h2⟩
  · exact .inl ⟨by grind, by grind⟩
  · exact .inr ⟨by grind, by grind⟩
  · exact .inl ⟨by grind, by grind⟩
  · exact .inr ⟨by grind, by grind⟩
theorem onP_shift (x1 y1 x2 y2 x3 y3 u v : Rat) : onP (x1 + u) (y1 + v) (x2 + u) (y2 + v) (x3 + u) (y3 + v) ↔ onP x1 y1 x2 y2 x3 y3 := by
  unfold onP; rw [crs_shift, btw_shift, btw_shift]
theorem btw_comm (a b r : Rat) : btw b a r ↔ btw a b r := Or.comm
theorem onP_comm (x1 y1 x2 y2 x3 y3 : Rat) : onP x2 y2 x1 y1 x3 y3 ↔ onP x1 y1 x2 y2 x3 y3 := by
  unfold onP; rw [crs_swap, btw_comm x1, btw_comm y1]
  constructor <;> rintro ⟨h, h'⟩ <;> exact ⟨by grind, h'⟩
theorem tri_neg0 (z : Rat) : tri (-z) 0 = -tri z 0 := by
  unfold tri; split <;> split <;> first | rfl | grind
theorem covers_iff (a b r : Rat) : (0 ≤ tri a r * tri r b ∧ (a = b → a = r)) ↔ btw a b r := by
  unfold tri btw
  split <;> split <;> (try split) <;> (try split) <;> constructor <;> intro h <;> first | grind | (exfalso; grind)
theorem btw_dist {a b r : Rat} (h : btw a b r) : dist a r + dist r b = dist a b := by
  unfold dist; rcases h with ⟨h1, h2⟩ | ⟨h1, h2⟩ <;> split <;> split <;> split <;> grind
theorem btw_left (a b : Rat) : btw a b a := by unfold btw; grind
theorem btw_right (a b : Rat) : btw a b b := by unfold btw; grind
theorem btw_at {a b t : Rat} : btw a b (a + (b - a) * t) ↔ a = b ∨ (0 ≤ t ∧ t ≤ 1) := by
  obtain ⟨w, hw⟩ : ∃ w, w = b - a := ⟨_, rfl⟩
  have hb : b = a + w := by grind
  rw [← hw, hb]
  obtain ⟨z, hz⟩ : ∃ z, z = w * t := ⟨_, rfl⟩
  rw [← hz]
  constructor
  · intro h
    by_cases h0 : w = 0
    · left; rw [h0]; grind
    · right
      by_cases hn : w < 0
      · have g1 : z ≤ 0 ∧ w ≤ z := by unfold btw at h; grind
        constructor
        · refine Rat.not_lt.1 fun ht => ?_
          have := Rat.mul_pos (show 0 < -w by grind) (show 0 < -t by grind)
          grind
        · refine Rat.not_lt.1 fun ht => ?_
          have := Rat.mul_pos (show 0 < -w by grind) (show 0 < t - 1 by grind)
          grind
      · have hp : 0 < w := by grind
        have g1 : 0 ≤ z ∧ z ≤ w := by unfold btw at h; grind
        constructor
        · refine Rat.not_lt.1 fun ht => ?_
          have := Rat.mul_pos hp (show 0 < -t by grind)
          grind
        · refine Rat.not_lt.1 fun ht => ?_
          have := Rat.mul_pos hp (show 0 < t - 1 by grind)
          grind
  · rintro (h | ⟨h0, h1⟩)
    · have hw0 : w = 0 := by grind
      rw [hz, hw0]; unfold btw; grind
    · by_cases hs : 0 ≤ w
      · have g1 := Rat.mul_nonneg hs h0
        have g2 := Rat.mul_nonneg hs (show 0 ≤ 1 - t by grind)
        left; constructor <;> grind
      · have g1 := Rat.mul_nonneg (show 0 ≤ -w by grind) h0
        have g2 := Rat.mul_nonneg (show 0 ≤ -w by grind) (show 0 ≤ 1 - t by grind)
        right; constructor <;> grind
theorem onP_at {x1 y1 x2 y2 t : Rat} : onP x1 y1 x2 y2 (x1 + (x2 - x1) * t) (y1 + (y2 - y1) * t) ↔ (0 ≤ t ∧ t ≤ 1) ∨ (x1 = x2 ∧ y1 = y2) := by
  unfold onP; rw [btw_at, btw_at]
  constructor
  · rintro ⟨_, h1, h2⟩
    rcases h1 with h1 | h1
    · rcases h2 with h2 | h2
      · exact .inr ⟨h1, h2⟩
      · exact .inl h2
    · exact .inl h1
  · rintro (h | ⟨h1, h2⟩)
    · exact ⟨crs_at .., .inr h, .inr h⟩
    · exact ⟨crs_at .., .inl h1, .inl h2⟩
theorem at_left {a b t : Rat} : a = a + (b - a) * t ↔ a = b ∨ t = 0 := by
  constructor
  · intro h
    have h1 : (b - a) * t = 0 := by grind
    rcases Rat.mul_eq_zero.1 h1 with h2 | h2
    · left; grind
    · exact .inr h2
  · rintro (h | h)
    · subst h; grind
    · subst h; grind
theorem at_right {a b t : Rat} : b = a + (b - a) * t ↔ a = b ∨ t = 1 := by
  constructor
  · intro h
    have h1 : (b - a) * (t - 1) = 0 := by grind
    rcases Rat.mul_eq_zero.1 h1 with h2 | h2
    · left; grind
    · right; grind
  · rintro (h | h)
    · subst h; grind
    · subst h; grind
theorem within_at {x1 y1 x2 y2 t : Rat} : (onP x1 y1 x2 y2 (x1 + (x2 - x1) * t) (y1 + (y2 - y1) * t) ∧ ¬ (x1 = x1 + (x2 - x1) * t ∧ y1 = y1 + (y2 - y1) * t)) ∧ ¬ (x2 = x1 + (x2 - x1) * t ∧ y2 = y1 + (y2 - y1) * t) ↔ (0 < t ∧ t < 1) ∧ ¬ (x1 = x2 ∧ y1 = y2) := by
  rw [onP_at, at_left, at_left, at_right, at_right]
  constructor
  · rintro ⟨⟨h1, h2⟩, h3⟩
    have ha : ¬ (x1 = x2 ∧ y1 = y2) := fun h => h2 ⟨.inl h.1, .inl h.2⟩
    rcases h1 with ⟨h4, h5⟩ | h1
    · refine ⟨⟨Rat.not_le.1 fun h => h2 ?_, Rat.not_le.1 fun h => h3 ?_⟩, ha⟩
      · have : t = 0 := by grind
        exact ⟨.inr this, .inr this⟩
      · have : t = 1 := by grind
        exact ⟨.inr this, .inr this⟩
    · exact absurd h1 ha
  · rintro ⟨⟨h1, h2⟩, h3⟩
    refine ⟨⟨.inl ⟨by grind, by grind⟩, fun ⟨h4, h5⟩ => ?_⟩, fun ⟨h4, h5⟩ => ?_⟩
    · rcases h4 with h4 | h4
      · rcases h5 with h5 | h5
        · exact h3 ⟨h4, h5⟩
        · grind
      · grind
    · rcases h4 with h4 | h4
      · rcases h5 with h5 | h5
        · exact h3 ⟨h4, h5⟩
        · grind
      · grind
theorem tri_mul (a b c d : Rat) : -1 ≤ tri a b * tri c d ∧ tri a b * tri c d ≤ 1 := by
  rcases tri_bd a b with h | h | h <;> rcases tri_bd c d with g | g | g <;> rw [h, g] <;> decide
theorem qSign_spec [Tab G] {b : Bool} {l d : List Nat} {q : Rat} {k : Nat} [h : IsQ b l d q k] (hs : 2 * k + 11000 ≤ cap := by decide) : PSpec Tryz.prog G 67 [aggS [boolS b, natS l, natS d]] (intS .i64 (tri q 0)) := by
  have hb := h.bq
  have i1 := hb.bz
  refine fn_spec Tryz.func67 rfl rfl rfl ?_
  refine T_regionS ?_
  refine Run.one (ok_box rfl rfl) rfl rfl rfl ?_
  refine Run.one (ok_assign rfl rfl) rfl rfl rfl ?_
  refine Run.nil ?_
  refine T_regionS ?_
  refine Run.one (ok_load_agg rfl rfl rfl rfl) rfl rfl rfl ?_
  refine Run.one (ok_call rfl rfl (qof_spec hs)) rfl rfl rfl ?_
  refine Run.one (ok_nilCheck rfl rfl) rfl rfl rfl ?_
  refine Run.one (ok_fieldAddr rfl rfl rfl) rfl rfl rfl ?_
  refine Run.one (ok_fieldAddr rfl rfl rfl) rfl rfl rfl ?_
  refine Run.one (ok_load_agg rfl rfl rfl rfl) rfl rfl rfl ?_
  refine Run.one ((ok_call rfl rfl (zSign_spec (by omega))).sub (int_eq sign_tri)) rfl rfl rfl ?_
  refine Run.one (ok_assign rfl rfl) rfl rfl rfl ?_
  refine Run.nil ?_
  refine T_ret ?_
  exact ⟨_, [], .one (.tmp rfl), List.nil_sublist _, rfl, rfl⟩
theorem qSame_spec [Tab G] {b c : Bool} {l d m e : List Nat} {p q : Rat} {k j : Nat} [hx : IsQ b l d p k] [hy : IsQ c m e q j] (hs : 100 * (k + j) + 20000 ≤ cap := by decide) : PSpec Tryz.prog G 182 [aggS [boolS b, natS l, natS d], aggS [boolS c, natS m, natS e]] (boolS (decide (p = q))) := by
  refine fn_spec Tryz.func182 rfl rfl rfl ?_
  refine T_regionS ?_
  refine Run.one (ok_box rfl rfl) rfl rfl rfl ?_
  refine Run.one (ok_box rfl rfl) rfl rfl rfl ?_
  refine Run.one (ok_assign rfl rfl) rfl rfl rfl ?_
  refine Run.nil ?_
  refine T_regionS ?_
  refine Run.one (ok_load_agg rfl rfl rfl rfl) rfl rfl rfl ?_
  refine Run.one (ok_load_agg rfl rfl rfl rfl) rfl rfl rfl ?_
  refine Run.one (ok_call rfl rfl (qcmp_spec hs)) rfl rfl rfl ?_
  refine Run.one ((ok_cmp rfl rfl rfl rfl).sub (bool_eq tri_zero)) rfl rfl rfl ?_
  refine Run.one (ok_assign rfl rfl) rfl rfl rfl ?_
  refine Run.nil ?_
  refine T_ret ?_
  exact ⟨_, [], .one (.tmp rfl), List.nil_sublist _, rfl, rfl⟩
theorem side3_spec [Tab G] {b1 c1 : Bool} {l1 d1 m1 e1 : List Nat} {x1 y1 : Rat} {k1 j1 : Nat} [hx1 : IsQ b1 l1 d1 x1 k1] [hy1 : IsQ c1 m1 e1 y1 j1] {b2 c2 : Bool} {l2 d2 m2 e2 : List Nat} {x2 y2 : Rat} {k2 j2 : Nat} [hx2 : IsQ b2 l2 d2 x2 k2] [hy2 : IsQ c2 m2 e2 y2 j2] {b3 c3 : Bool} {l3 d3 m3 e3 : List Nat} {x3 y3 : Rat} {k3 j3 : Nat} [hx3 : IsQ b3 l3 d3 x3 k3] [hy3 : IsQ c3 m3 e3 y3 j3] (hs : 100 * (2 * (k1 + j1) + (k2 + j2) + (k3 + j3)) + 25000 ≤ cap := by decide) : PSpec Tryz.prog G 54 [aggS [boolS b1, natS l1, natS d1, boolS c1, natS m1, natS e1, boolS b2, natS l2, natS d2, boolS c2, natS m2, natS e2, boolS b3, natS l3, natS d3, boolS c3, natS m3, natS e3]] (intS .i64 (tri (crs x1 y1 x2 y2 x3 y3) 0)) := by
  have hxb1 := hx1.bq
  have hyb1 := hy1.bq
  have hxb2 := hx2.bq
  have hyb2 := hy2.bq
  have hxb3 := hx3.bq
  have hyb3 := hy3.bq
  refine fn_spec Tryz.func54 rfl rfl rfl ?_
  refine T_regionS ?_
  refine Run.one (ok_box rfl rfl) rfl rfl rfl ?_
  refine Run.one (ok_assign rfl rfl) rfl rfl rfl ?_
  refine Run.nil ?_
  refine T_drawS 13 (by kernel_rfl) ?_
  refine Run.one (ok_fieldAddr rfl rfl rfl) rfl rfl rfl ?_
  refine Run.one (ok_load_agg rfl rfl rfl rfl) rfl rfl rfl ?_
  refine Run.one (ok_fieldAddr rfl rfl rfl) rfl rfl rfl ?_
  refine Run.one (ok_load_agg rfl rfl rfl rfl) rfl rfl rfl ?_
  refine Run.one (ok_call rfl rfl (vSub_spec (by omega))) rfl rfl rfl ?_
  refine Run.one (ok_fieldAddr rfl rfl rfl) rfl rfl rfl ?_
  refine Run.one (ok_load_agg rfl rfl rfl rfl) rfl rfl rfl ?_
  refine Run.one (ok_fieldAddr rfl rfl rfl) rfl rfl rfl ?_
  refine Run.one (ok_load_agg rfl rfl rfl rfl) rfl rfl rfl ?_
  refine Run.one (ok_call rfl rfl (vSub_spec (by omega))) rfl rfl rfl ?_
  refine Run.one (ok_call rfl rfl (vCross_spec (by omega))) rfl rfl rfl ?_
  refine Run.one ((ok_call rfl rfl (qSign_spec (by omega))).sub (int_eq rfl)) rfl rfl rfl ?_
  refine Run.one (ok_assign rfl rfl) rfl rfl rfl ?_
  refine Run.nil ?_
  refine Run.nil ?_
  refine T_ret ?_
  exact ⟨_, [], .one (.tmp rfl), List.nil_sublist _, rfl, rfl⟩
theorem sSide_spec [Tab G] {b1 c1 : Bool} {l1 d1 m1 e1 : List Nat} {x1 y1 : Rat} {k1 j1 : Nat} [hx1 : IsQ b1 l1 d1 x1 k1] [hy1 : IsQ c1 m1 e1 y1 j1] {b2 c2 : Bool} {l2 d2 m2 e2 : List Nat} {x2 y2 : Rat} {k2 j2 : Nat} [hx2 : IsQ b2 l2 d2 x2 k2] [hy2 : IsQ c2 m2 e2 y2 j2] {b3 c3 : Bool} {l3 d3 m3 e3 : List Nat} {x3 y3 : Rat} {k3 j3 : Nat} [hx3 : IsQ b3 l3 d3 x3 k3] [hy3 : IsQ c3 m3 e3 y3 j3] (hs : 100 * (2 * (k1 + j1) + (k2 + j2) + (k3 + j3)) + 25000 ≤ cap := by decide) : PSpec Tryz.prog G 13 [aggS [boolS b1, natS l1, natS d1, boolS c1, natS m1, natS e1], aggS [boolS b2, natS l2, natS d2, boolS c2, natS m2, natS e2], aggS [boolS b3, natS l3, natS d3, boolS c3, natS m3, natS e3]] (intS .i64 (tri (crs x1 y1 x2 y2 x3 y3) 0)) := by
  refine fn_spec Tryz.func13 rfl rfl rfl ?_
  refine T_regionS ?_
  refine Run.one (ok_box rfl rfl) rfl rfl rfl ?_
  refine Run.one (ok_box rfl rfl) rfl rfl rfl ?_
  refine Run.one (ok_box rfl rfl) rfl rfl rfl ?_
  refine Run.one (ok_assign rfl rfl) rfl rfl rfl ?_
  refine Run.nil ?_
  refine T_regionS ?_
  refine Run.one (ok_load_agg rfl rfl rfl rfl) rfl rfl rfl ?_
  refine Run.one (ok_load_agg rfl rfl rfl rfl) rfl rfl rfl ?_
  refine Run.one (ok_load_agg rfl rfl rfl rfl) rfl rfl rfl ?_
  refine Run.one ((show OpOK _ _ _ _ _ (aggS [boolS b1, natS l1, natS d1, boolS c1, natS m1, natS e1, boolS b2, natS l2, natS d2, boolS c2, natS m2, natS e2, boolS b3, natS l3, natS d3, boolS c3, natS m3, natS e3]) from ok_build rfl rfl (by kernel_rfl))) rfl rfl rfl ?_
  refine Run.one (ok_call rfl rfl (side3_spec hs)) rfl rfl rfl ?_
  refine Run.one (ok_assign rfl rfl) rfl rfl rfl ?_
  refine Run.nil ?_
  refine T_ret ?_
  exact ⟨_, [], .one (.tmp rfl), List.nil_sublist _, rfl, rfl⟩
theorem outer_spec [Tab G] {b1 : Bool} {l1 d1 : List Nat} {p : Rat} {k1 : Nat} [hx1 : IsQ b1 l1 d1 p k1] {b2 : Bool} {l2 d2 : List Nat} {q : Rat} {k2 : Nat} [hx2 : IsQ b2 l2 d2 q k2] {b3 : Bool} {l3 d3 : List Nat} {r : Rat} {k3 : Nat} [hx3 : IsQ b3 l3 d3 r k3] (hs : 100 * (k1 + k2 + k3) + 20000 ≤ cap := by decide) : PSpec Tryz.prog G 134 [aggS [boolS b1, natS l1, natS d1], aggS [boolS b2, natS l2, natS d2], aggS [boolS b3, natS l3, natS d3]] (boolS (decide (p = q → p = r))) := by
  refine fn_spec Tryz.func134 rfl rfl rfl ?_
  refine T_regionS ?_
  refine Run.one (ok_box rfl rfl) rfl rfl rfl ?_
  refine Run.one (ok_box rfl rfl) rfl rfl rfl ?_
  refine Run.one (ok_box rfl rfl) rfl rfl rfl ?_
  refine Run.one (ok_assign rfl rfl) rfl rfl rfl ?_
  refine Run.nil ?_
  refine T_regionS ?_
  refine Run.one (ok_load_agg rfl rfl rfl rfl) rfl rfl rfl ?_
  refine Run.one (ok_load_agg rfl rfl rfl rfl) rfl rfl rfl ?_
  refine Run.one (ok_call rfl rfl (qSame_spec (by omega))) rfl rfl rfl ?_
  refine Run.oneB (ok_not rfl rfl) rfl rfl rfl (fun h1_3 => ?_) (fun h1_3 => ?_)
  · refine Run.one (ok_move rfl rfl) rfl rfl rfl ?_
    refine Run.no ⟨_, _, rfl, rfl, rfl⟩ rfl rfl ?_
    refine Run.no ⟨_, _, rfl, rfl, rfl⟩ rfl rfl ?_
    refine Run.no ⟨_, _, rfl, rfl, rfl⟩ rfl rfl ?_
    refine Run.one (ok_pick rfl rfl rfl) rfl rfl rfl ?_
    refine Run.one (ok_assign rfl rfl) rfl rfl rfl ?_
    refine Run.nil ?_
    refine T_ret ?_
    exact ⟨_, [], .one (.tmp rfl), List.nil_sublist _, congrArg boolS (decide_eq_true fun e => absurd e (by simpa using h1_3)).symm, rfl⟩
  · refine Run.one (ok_move rfl rfl) rfl rfl rfl ?_
    refine Run.one (ok_load_agg rfl rfl rfl rfl) ⟨_, _, rfl, rfl, rfl⟩ rfl rfl ?_
    refine Run.one (ok_load_agg rfl rfl rfl rfl) ⟨_, _, rfl, rfl, rfl⟩ rfl rfl ?_
    refine Run.one (ok_call rfl rfl (qSame_spec (by omega))) ⟨_, _, rfl, rfl, rfl⟩ rfl rfl ?_
    refine Run.one (ok_pick rfl rfl rfl) rfl rfl rfl ?_
    refine Run.one (ok_assign rfl rfl) rfl rfl rfl ?_
    refine Run.nil ?_
    refine T_ret ?_
    exact ⟨_, [], .one (.tmp rfl), List.nil_sublist _, congrArg boolS (decide_eq_decide.2 ⟨fun h _ => h, fun h => h (by simpa using h1_3)⟩), rfl⟩
theorem covers_spec [Tab G] {b1 : Bool} {l1 d1 : List Nat} {p : Rat} {k1 : Nat} [hx1 : IsQ b1 l1 d1 p k1] {b2 : Bool} {l2 d2 : List Nat} {q : Rat} {k2 : Nat} [hx2 : IsQ b2 l2 d2 q k2] {b3 : Bool} {l3 d3 : List Nat} {r : Rat} {k3 : Nat} [hx3 : IsQ b3 l3 d3 r k3] (hs : 100 * (k1 + k2 + k3) + 20000 ≤ cap := by decide) : PSpec Tryz.prog G 87 [aggS [boolS b1, natS l1, natS d1], aggS [boolS b2, natS l2, natS d2], aggS [boolS b3, natS l3, natS d3]] (boolS (decide (btw p q r))) := by
  refine fn_spec Tryz.func87 rfl rfl rfl ?_
  refine T_regionS ?_
  refine Run.one (ok_box rfl rfl) rfl rfl rfl ?_
  refine Run.one (ok_box rfl rfl) rfl rfl rfl ?_
  refine Run.one (ok_box rfl rfl) rfl rfl rfl ?_
  refine Run.one (ok_assign rfl rfl) rfl rfl rfl ?_
  refine Run.nil ?_
  refine T_drawS 15 (by kernel_rfl) ?_
  refine Run.one (ok_load_agg rfl rfl rfl rfl) rfl rfl rfl ?_
  refine Run.one (ok_load_agg rfl rfl rfl rfl) rfl rfl rfl ?_
  refine Run.one (ok_call rfl rfl (qcmp_spec (by omega))) rfl rfl rfl ?_
  refine Run.one (ok_load_agg rfl rfl rfl rfl) rfl rfl rfl ?_
  refine Run.one (ok_load_agg rfl rfl rfl rfl) rfl rfl rfl ?_
  refine Run.one (ok_call rfl rfl (qcmp_spec (by omega))) rfl rfl rfl ?_
  refine Run.one (ok_ari rfl rfl rfl rfl (wrap_i64 (by have := tri_mul p r r q; omega) (by have := tri_mul p r r q; omega))) rfl rfl rfl ?_
  refine Run.oneB (ok_cmp rfl rfl rfl rfl) rfl rfl rfl (fun h1_7 => ?_) (fun h1_7 => ?_)
  · have k1_7 := of_decide_eq_true h1_7
    refine Run.one (ok_move rfl rfl) rfl rfl rfl ?_
    refine Run.one (ok_load_agg rfl rfl rfl rfl) ⟨_, _, rfl, rfl, rfl⟩ rfl rfl ?_
    refine Run.one (ok_load_agg rfl rfl rfl rfl) ⟨_, _, rfl, rfl, rfl⟩ rfl rfl ?_
    refine Run.one (ok_load_agg rfl rfl rfl rfl) ⟨_, _, rfl, rfl, rfl⟩ rfl rfl ?_
    refine Run.one (ok_call rfl rfl (outer_spec (by omega))) ⟨_, _, rfl, rfl, rfl⟩ rfl rfl ?_
    refine Run.one (ok_pick rfl rfl rfl) rfl rfl rfl ?_
    refine Run.one (ok_assign rfl rfl) rfl rfl rfl ?_
    refine Run.nil ?_
    refine Run.nil ?_
    refine T_ret ?_
    exact ⟨_, [], .one (.tmp rfl), List.nil_sublist _, congrArg boolS (decide_eq_decide.2 ⟨fun h => (covers_iff ..).1 ⟨by omega, h⟩, fun h => ((covers_iff ..).2 h).2⟩), rfl⟩
  · have k1_7 := of_decide_eq_false h1_7
    refine Run.one (ok_move rfl rfl) rfl rfl rfl ?_
    refine Run.no ⟨_, _, rfl, rfl, rfl⟩ rfl rfl ?_
    refine Run.no ⟨_, _, rfl, rfl, rfl⟩ rfl rfl ?_
    refine Run.no ⟨_, _, rfl, rfl, rfl⟩ rfl rfl ?_
    refine Run.no ⟨_, _, rfl, rfl, rfl⟩ rfl rfl ?_
    refine Run.one (ok_pick rfl rfl rfl) rfl rfl rfl ?_
    refine Run.one (ok_assign rfl rfl) rfl rfl rfl ?_
    refine Run.nil ?_
    refine Run.nil ?_
    refine T_ret ?_
    exact ⟨_, [], .one (.tmp rfl), List.nil_sublist _, congrArg boolS (decide_eq_false fun h => k1_7 ((covers_iff ..).2 h).1).symm, rfl⟩
theorem sOn_spec [Tab G] {b1 c1 : Bool} {l1 d1 m1 e1 : List Nat} {x1 y1 : Rat} {k1 j1 : Nat} [hx1 : IsQ b1 l1 d1 x1 k1] [hy1 : IsQ c1 m1 e1 y1 j1] {b2 c2 : Bool} {l2 d2 m2 e2 : List Nat} {x2 y2 : Rat} {k2 j2 : Nat} [hx2 : IsQ b2 l2 d2 x2 k2] [hy2 : IsQ c2 m2 e2 y2 j2] {b3 c3 : Bool} {l3 d3 m3 e3 : List Nat} {x3 y3 : Rat} {k3 j3 : Nat} [hx3 : IsQ b3 l3 d3 x3 k3] [hy3 : IsQ c3 m3 e3 y3 j3] (hs : 200 * ((k1 + j1) + (k2 + j2) + (k3 + j3)) + 25000 ≤ cap := by decide) : PSpec Tryz.prog G 49 [aggS [boolS b1, natS l1, natS d1, boolS c1, natS m1, natS e1], aggS [boolS b2, natS l2, natS d2, boolS c2, natS m2, natS e2], aggS [boolS b3, natS l3, natS d3, boolS c3, natS m3, natS e3]] (boolS (decide (onP x1 y1 x2 y2 x3 y3))) := by
  refine fn_spec Tryz.func49 rfl rfl rfl ?_
  refine T_regionS ?_
  refine Run.one (ok_box rfl rfl) rfl rfl rfl ?_
  refine Run.one (ok_box rfl rfl) rfl rfl rfl ?_
  refine Run.one (ok_box rfl rfl) rfl rfl rfl ?_
  refine Run.one (ok_assign rfl rfl) rfl rfl rfl ?_
  refine Run.nil ?_
  refine T_regionS ?_
  refine Run.one (ok_load_agg rfl rfl rfl rfl) rfl rfl rfl ?_
  refine Run.one (ok_load_agg rfl rfl rfl rfl) rfl rfl rfl ?_
  refine Run.one (ok_load_agg rfl rfl rfl rfl) rfl rfl rfl ?_
  refine Run.one (ok_call rfl rfl (sSide_spec (by omega))) rfl rfl rfl ?_
  refine Run.oneB (ok_cmp rfl rfl rfl rfl) rfl rfl rfl (fun h1_4 => ?_) (fun h1_4 => ?_)
  · have k1_4 := beq_iff_eq.1 h1_4
    refine Run.one (ok_move rfl rfl) rfl rfl rfl ?_
    refine Run.one (ok_fieldAddr rfl rfl rfl) ⟨_, _, rfl, rfl, rfl⟩ rfl rfl ?_
    refine Run.one (ok_load_agg rfl rfl rfl rfl) ⟨_, _, rfl, rfl, rfl⟩ rfl rfl ?_
    refine Run.one (ok_fieldAddr rfl rfl rfl) ⟨_, _, rfl, rfl, rfl⟩ rfl rfl ?_
    refine Run.one (ok_load_agg rfl rfl rfl rfl) ⟨_, _, rfl, rfl, rfl⟩ rfl rfl ?_
    refine Run.one (ok_fieldAddr rfl rfl rfl) ⟨_, _, rfl, rfl, rfl⟩ rfl rfl ?_
    refine Run.one (ok_load_agg rfl rfl rfl rfl) ⟨_, _, rfl, rfl, rfl⟩ rfl rfl ?_
    refine Run.one (ok_call rfl rfl (covers_spec (by omega))) ⟨_, _, rfl, rfl, rfl⟩ rfl rfl ?_
    refine Run.oneB (ok_pick rfl rfl rfl) rfl rfl rfl (fun h1_13 => ?_) (fun h1_13 => ?_)
    · refine Run.one (ok_move rfl rfl) rfl rfl rfl ?_
      refine Run.one (ok_fieldAddr rfl rfl rfl) ⟨_, _, rfl, rfl, rfl⟩ rfl rfl ?_
      refine Run.one (ok_load_agg rfl rfl rfl rfl) ⟨_, _, rfl, rfl, rfl⟩ rfl rfl ?_
      refine Run.one (ok_fieldAddr rfl rfl rfl) ⟨_, _, rfl, rfl, rfl⟩ rfl rfl ?_
      refine Run.one (ok_load_agg rfl rfl rfl rfl) ⟨_, _, rfl, rfl, rfl⟩ rfl rfl ?_
      refine Run.one (ok_fieldAddr rfl rfl rfl) ⟨_, _, rfl, rfl, rfl⟩ rfl rfl ?_
      refine Run.one (ok_load_agg rfl rfl rfl rfl) ⟨_, _, rfl, rfl, rfl⟩ rfl rfl ?_
      refine Run.one (ok_call rfl rfl (covers_spec (by omega))) ⟨_, _, rfl, rfl, rfl⟩ rfl rfl ?_
      refine Run.one (ok_pick rfl rfl rfl) rfl rfl rfl ?_
      refine Run.one (ok_assign rfl rfl) rfl rfl rfl ?_
      refine Run.nil ?_
      refine T_ret ?_
      exact ⟨_, [], .one (.tmp rfl), List.nil_sublist _, congrArg boolS (decide_eq_decide.2 ⟨fun h => ⟨tri_eq.1 k1_4, of_decide_eq_true h1_13, h⟩, fun h => h.2.2⟩), rfl⟩
    · refine Run.one (ok_move rfl rfl) rfl rfl rfl ?_
      refine Run.no ⟨_, _, rfl, rfl, rfl⟩ rfl rfl ?_
      refine Run.no ⟨_, _, rfl, rfl, rfl⟩ rfl rfl ?_
      refine Run.no ⟨_, _, rfl, rfl, rfl⟩ rfl rfl ?_
      refine Run.no ⟨_, _, rfl, rfl, rfl⟩ rfl rfl ?_
      refine Run.no ⟨_, _, rfl, rfl, rfl⟩ rfl rfl ?_
      refine Run.no ⟨_, _, rfl, rfl, rfl⟩ rfl rfl ?_
      refine Run.no ⟨_, _, rfl, rfl, rfl⟩ rfl rfl ?_
      refine Run.one (ok_pick rfl rfl rfl) rfl rfl rfl ?_
      refine Run.one (ok_assign rfl rfl) rfl rfl rfl ?_
      refine Run.nil ?_
      refine T_ret ?_
      exact ⟨_, [], .one (.tmp rfl), List.nil_sublist _, congrArg boolS (decide_eq_false fun h => of_decide_eq_false h1_13 h.2.1).symm, rfl⟩
  · have k1_4 := beq_eq_false_iff_ne.1 h1_4
    refine Run.one (ok_move rfl rfl) rfl rfl rfl ?_
    refine Run.no ⟨_, _, rfl, rfl, rfl⟩ rfl rfl ?_
    refine Run.no ⟨_, _, rfl, rfl, rfl⟩ rfl rfl ?_
    refine Run.no ⟨_, _, rfl, rfl, rfl⟩ rfl rfl ?_
    refine Run.no ⟨_, _, rfl, rfl, rfl⟩ rfl rfl ?_
    refine Run.no ⟨_, _, rfl, rfl, rfl⟩ rfl rfl ?_
    refine Run.no ⟨_, _, rfl, rfl, rfl⟩ rfl rfl ?_
    refine Run.no ⟨_, _, rfl, rfl, rfl⟩ rfl rfl ?_
    refine Run.one (ok_pick rfl rfl rfl) rfl rfl rfl ?_
    refine Run.one (ok_move rfl rfl) rfl rfl rfl ?_
    refine Run.no ⟨_, _, rfl, rfl, rfl⟩ rfl rfl ?_
    refine Run.no ⟨_, _, rfl, rfl, rfl⟩ rfl rfl ?_
    refine Run.no ⟨_, _, rfl, rfl, rfl⟩ rfl rfl ?_
    refine Run.no ⟨_, _, rfl, rfl, rfl⟩ rfl rfl ?_
    refine Run.no ⟨_, _, rfl, rfl, rfl⟩ rfl rfl ?_
    refine Run.no ⟨_, _, rfl, rfl, rfl⟩ rfl rfl ?_
    refine Run.no ⟨_, _, rfl, rfl, rfl⟩ rfl rfl ?_
    refine Run.one (ok_pick rfl rfl rfl) rfl rfl rfl ?_
    refine Run.one (ok_assign rfl rfl) rfl rfl rfl ?_
    refine Run.nil ?_
    refine T_ret ?_
    exact ⟨_, [], .one (.tmp rfl), List.nil_sublist _, congrArg boolS (decide_eq_false fun h => k1_4 (tri_eq.2 h.1)).symm, rfl⟩
theorem sWithin_spec [Tab G] {b1 c1 : Bool} {l1 d1 m1 e1 : List Nat} {x1 y1 : Rat} {k1 j1 : Nat} [hx1 : IsQ b1 l1 d1 x1 k1] [hy1 : IsQ c1 m1 e1 y1 j1] {b2 c2 : Bool} {l2 d2 m2 e2 : List Nat} {x2 y2 : Rat} {k2 j2 : Nat} [hx2 : IsQ b2 l2 d2 x2 k2] [hy2 : IsQ c2 m2 e2 y2 j2] {b3 c3 : Bool} {l3 d3 m3 e3 : List Nat} {x3 y3 : Rat} {k3 j3 : Nat} [hx3 : IsQ b3 l3 d3 x3 k3] [hy3 : IsQ c3 m3 e3 y3 j3] (hs : 200 * ((k1 + j1) + (k2 + j2) + (k3 + j3)) + 25000 ≤ cap := by decide) : PSpec Tryz.prog G 48 [aggS [boolS b1, natS l1, natS d1, boolS c1, natS m1, natS e1], aggS [boolS b2, natS l2, natS d2, boolS c2, natS m2, natS e2], aggS [boolS b3, natS l3, natS d3, boolS c3, natS m3, natS e3]] (boolS (decide ((onP x1 y1 x2 y2 x3 y3 ∧ ¬ (x1 = x3 ∧ y1 = y3)) ∧ ¬ (x2 = x3 ∧ y2 = y3)))) := by
  refine fn_spec Tryz.func48 rfl rfl rfl ?_
  refine T_regionS ?_
  refine Run.one (ok_box rfl rfl) rfl rfl rfl ?_
  refine Run.one (ok_box rfl rfl) rfl rfl rfl ?_
  refine Run.one (ok_box rfl rfl) rfl rfl rfl ?_
  refine Run.one (ok_assign rfl rfl) rfl rfl rfl ?_
  refine Run.nil ?_
  refine T_regionS ?_
  refine Run.one (ok_load_agg rfl rfl rfl rfl) rfl rfl rfl ?_
  refine Run.one (ok_load_agg rfl rfl rfl rfl) rfl rfl rfl ?_
  refine Run.one (ok_load_agg rfl rfl rfl rfl) rfl rfl rfl ?_
  refine Run.oneB (ok_call rfl rfl (sOn_spec (by omega))) rfl rfl rfl (fun h1_3 => ?_) (fun h1_3 => ?_)
  · refine Run.one (ok_move rfl rfl) rfl rfl rfl ?_
    refine Run.one (ok_load_agg rfl rfl rfl rfl) ⟨_, _, rfl, rfl, rfl⟩ rfl rfl ?_
    refine Run.one (ok_load_agg rfl rfl rfl rfl) ⟨_, _, rfl, rfl, rfl⟩ rfl rfl ?_
    refine Run.one (ok_call rfl rfl (vSame_spec (by omega))) ⟨_, _, rfl, rfl, rfl⟩ rfl rfl ?_
    refine Run.one (ok_not rfl rfl) ⟨_, _, rfl, rfl, rfl⟩ rfl rfl ?_
    refine Run.oneB (ok_pick rfl rfl rfl) rfl rfl rfl (fun h1_9 => ?_) (fun h1_9 => ?_)
    · refine Run.one (ok_move rfl rfl) rfl rfl rfl ?_
      refine Run.one (ok_load_agg rfl rfl rfl rfl) ⟨_, _, rfl, rfl, rfl⟩ rfl rfl ?_
      refine Run.one (ok_load_agg rfl rfl rfl rfl) ⟨_, _, rfl, rfl, rfl⟩ rfl rfl ?_
      refine Run.one (ok_call rfl rfl (vSame_spec (by omega))) ⟨_, _, rfl, rfl, rfl⟩ rfl rfl ?_
      refine Run.one (ok_not rfl rfl) ⟨_, _, rfl, rfl, rfl⟩ rfl rfl ?_
      refine Run.one (ok_pick rfl rfl rfl) rfl rfl rfl ?_
      refine Run.one (ok_assign rfl rfl) rfl rfl rfl ?_
      refine Run.nil ?_
      refine T_ret ?_
      exact ⟨_, [], .one (.tmp rfl), List.nil_sublist _, congrArg boolS (by rw [← decide_not]; exact decide_eq_decide.2 ⟨fun h => ⟨⟨of_decide_eq_true h1_3, by rw [Bool.not_eq_true'] at h1_9; exact of_decide_eq_false h1_9⟩, h⟩, fun h => h.2⟩), rfl⟩
    · refine Run.one (ok_move rfl rfl) rfl rfl rfl ?_
      refine Run.no ⟨_, _, rfl, rfl, rfl⟩ rfl rfl ?_
      refine Run.no ⟨_, _, rfl, rfl, rfl⟩ rfl rfl ?_
      refine Run.no ⟨_, _, rfl, rfl, rfl⟩ rfl rfl ?_
      refine Run.no ⟨_, _, rfl, rfl, rfl⟩ rfl rfl ?_
      refine Run.one (ok_pick rfl rfl rfl) rfl rfl rfl ?_
      refine Run.one (ok_assign rfl rfl) rfl rfl rfl ?_
      refine Run.nil ?_
      refine T_ret ?_
      exact ⟨_, [], .one (.tmp rfl), List.nil_sublist _, congrArg boolS (decide_eq_false fun h => h.1.2 (by simpa using h1_9)).symm, rfl⟩
  · refine Run.one (ok_move rfl rfl) rfl rfl rfl ?_
    refine Run.no ⟨_, _, rfl, rfl, rfl⟩ rfl rfl ?_
    refine Run.no ⟨_, _, rfl, rfl, rfl⟩ rfl rfl ?_
    refine Run.no ⟨_, _, rfl, rfl, rfl⟩ rfl rfl ?_
    refine Run.no ⟨_, _, rfl, rfl, rfl⟩ rfl rfl ?_
    refine Run.one (ok_pick rfl rfl rfl) rfl rfl rfl ?_
    refine Run.one (ok_move rfl rfl) rfl rfl rfl ?_
    refine Run.no ⟨_, _, rfl, rfl, rfl⟩ rfl rfl ?_
    refine Run.no ⟨_, _, rfl, rfl, rfl⟩ rfl rfl ?_
    refine Run.no ⟨_, _, rfl, rfl, rfl⟩ rfl rfl ?_
    refine Run.no ⟨_, _, rfl, rfl, rfl⟩ rfl rfl ?_
    refine Run.one (ok_pick rfl rfl rfl) rfl rfl rfl ?_
    refine Run.one (ok_assign rfl rfl) rfl rfl rfl ?_
    refine Run.nil ?_
    refine T_ret ?_
    exact ⟨_, [], .one (.tmp rfl), List.nil_sublist _, congrArg boolS (decide_eq_false fun h => of_decide_eq_false h1_3 h.1.1).symm, rfl⟩
theorem sStraight_spec [Tab G] {b1 c1 : Bool} {l1 d1 m1 e1 : List Nat} {x1 y1 : Rat} {k1 j1 : Nat} [hx1 : IsQ b1 l1 d1 x1 k1] [hy1 : IsQ c1 m1 e1 y1 j1] {b2 c2 : Bool} {l2 d2 m2 e2 : List Nat} {x2 y2 : Rat} {k2 j2 : Nat} [hx2 : IsQ b2 l2 d2 x2 k2] [hy2 : IsQ c2 m2 e2 y2 j2] {b3 c3 : Bool} {l3 d3 m3 e3 : List Nat} {x3 y3 : Rat} {k3 j3 : Nat} [hx3 : IsQ b3 l3 d3 x3 k3] [hy3 : IsQ c3 m3 e3 y3 j3] (hs : 200 * ((k1 + j1) + (k2 + j2) + (k3 + j3)) + 25000 ≤ cap := by decide) : PSpec Tryz.prog G 50 [aggS [boolS b1, natS l1, natS d1, boolS c1, natS m1, natS e1], aggS [boolS b2, natS l2, natS d2, boolS c2, natS m2, natS e2], aggS [boolS b3, natS l3, natS d3, boolS c3, natS m3, natS e3]] (boolS (decide (¬ (x1 = x2 ∧ y1 = y2) ∧ (onP x1 y1 x3 y3 x2 y2 ∧ ¬ (x1 = x2 ∧ y1 = y2)) ∧ ¬ (x3 = x2 ∧ y3 = y2)))) := by
  refine fn_spec Tryz.func50 rfl rfl rfl ?_
  refine T_regionS ?_
  refine Run.one (ok_box rfl rfl) rfl rfl rfl ?_
  refine Run.one (ok_box rfl rfl) rfl rfl rfl ?_
  refine Run.one (ok_box rfl rfl) rfl rfl rfl ?_
  refine Run.one (ok_assign rfl rfl) rfl rfl rfl ?_
  refine Run.nil ?_
  refine T_regionS ?_
  refine Run.one (ok_load_agg rfl rfl rfl rfl) rfl rfl rfl ?_
  refine Run.one (ok_load_agg rfl rfl rfl rfl) rfl rfl rfl ?_
  refine Run.one (ok_call rfl rfl (vSame_spec (by omega))) rfl rfl rfl ?_
  refine Run.oneB (ok_not rfl rfl) rfl rfl rfl (fun h1_3 => ?_) (fun h1_3 => ?_)
  · refine Run.one (ok_move rfl rfl) rfl rfl rfl ?_
    refine Run.one (ok_load_agg rfl rfl rfl rfl) ⟨_, _, rfl, rfl, rfl⟩ rfl rfl ?_
    refine Run.one (ok_load_agg rfl rfl rfl rfl) ⟨_, _, rfl, rfl, rfl⟩ rfl rfl ?_
    refine Run.one (ok_load_agg rfl rfl rfl rfl) ⟨_, _, rfl, rfl, rfl⟩ rfl rfl ?_
    refine Run.one (ok_call rfl rfl (sWithin_spec (by omega))) ⟨_, _, rfl, rfl, rfl⟩ rfl rfl ?_
    refine Run.one (ok_pick rfl rfl rfl) rfl rfl rfl ?_
    refine Run.one (ok_assign rfl rfl) rfl rfl rfl ?_
    refine Run.nil ?_
    refine T_ret ?_
    exact ⟨_, [], .one (.tmp rfl), List.nil_sublist _, congrArg boolS (decide_eq_decide.2 ⟨fun h => ⟨h.1.2, h⟩, fun h => h.2⟩), rfl⟩
  · refine Run.one (ok_move rfl rfl) rfl rfl rfl ?_
    refine Run.no ⟨_, _, rfl, rfl, rfl⟩ rfl rfl ?_
    refine Run.no ⟨_, _, rfl, rfl, rfl⟩ rfl rfl ?_
    refine Run.no ⟨_, _, rfl, rfl, rfl⟩ rfl rfl ?_
    refine Run.no ⟨_, _, rfl, rfl, rfl⟩ rfl rfl ?_
    refine Run.one (ok_pick rfl rfl rfl) rfl rfl rfl ?_
    refine Run.one (ok_assign rfl rfl) rfl rfl rfl ?_
    refine Run.nil ?_
    refine T_ret ?_
    exact ⟨_, [], .one (.tmp rfl), List.nil_sublist _, congrArg boolS (decide_eq_false fun h => h.1 (by simpa using h1_3)).symm, rfl⟩
end Go.Proofs
/- Rings of points: side.ring, side.Turns. -/
namespace Go.Proofs
open Go Go.Sv Num
variable {G : Imm}
abbrev RawP := (Bool × List Nat × List Nat) × (Bool × List Nat × List Nat)
/-- three corners of a ring: the one ahead, the corner, the one behind -/
def ring3 (xs : List RawP) (i : Nat) : RawP × RawP × RawP := (xs.getD ((i + xs.length - 1) % xs.length) default, xs.getD i default, xs.getD ((i + 1) % xs.length) default)
def ringX (xs : List RawP) : List (List SV) := (List.range xs.length).map fun i => [aggS (pc (ring3 xs i).1 ++ (pc (ring3 xs i).2.1 ++ pc (ring3 xs i).2.2))]
theorem ringX_length {xs : List RawP} : (ringX xs).length = xs.length := by simp [ringX]
theorem ringX_get {xs : List RawP} {i : Nat} (h : i < xs.length) : (ringX xs)[i]? = some [aggS (pc (ring3 xs i).1 ++ (pc (ring3 xs i).2.1 ++ pc (ring3 xs i).2.2))] := by simp [ringX, h]
theorem ringX_inv {xs : List RawP} {i : Nat} {ss : List SV} (h : (ringX xs)[i]? = some ss) : i < xs.length ∧ ss = [aggS (pc (ring3 xs i).1 ++ (pc (ring3 xs i).2.1 ++ pc (ring3 xs i).2.2))] := by
  have hl : i < xs.length := by rw [← ringX_length]; exact lt_of_get h
  rw [ringX_get hl] at h
  exact ⟨hl, (Option.some.inj h).symm⟩
theorem ringX_ss {xs : List RawP} {ss : List SV} (h : ss ∈ ringX xs) : ss.length = 1 := by
  simp only [ringX, List.mem_map] at h
  obtain ⟨i, _, rfl⟩ := h
  rfl
theorem get_getD {xs : List RawP} {i : Nat} (h : i < xs.length) : xs[i]? = some (xs.getD i default) := by simp [h]
theorem ring1_spec {xs : List RawP} : IterSpec Tryz.prog G 132 [ptrS [slS 6 pc xs]] (ringX xs) := by
  refine iter_spec Tryz.func132 rfl rfl rfl rfl fun l E hy => ?_
  refine T_regionS ?_
  refine Run.one (ok_load rfl rfl) rfl rfl rfl ?_
  refine Run.one (ok_len rfl rfl) rfl rfl rfl ?_
  refine Run.one (ok_move rfl rfl) rfl rfl rfl ?_
  refine Run.nil ?_
  refine T_block ?_
  refine T_len 4 rfl fun la => ?_
  unfold big at la
  refine T_loop (γ := Nat) (fun g => ⟨_, [(6, intS .i64 (g : Nat)), (5, intS .i64 xs.length), (4, slS 6 pc xs), (0, yieldS l), (1, ptrS [slS 6 pc xs])], [], [], (g, false)⟩) (fun g => g ≤ xs.length) (fun g => xs.length - g) 0 (Nat.zero_le _) (ent_g (subG_cons rfl (subG_cons rfl (subG_cons rfl (subG_cons rfl (subG_cons rfl (trivial))))))) ?_
  intro g hg
  refine T_regionS ?_
  refine Run.one (ok_cmp rfl rfl rfl rfl) rfl rfl rfl ?_
  refine Run.nil ?_
  refine T_seq ?_
  refine T_cond rfl rfl (fun h7 => ?_) (fun h7 => ?_)
  · have k7 := of_decide_eq_true h7
    have hm1 : (g + xs.length - 1) % xs.length < xs.length := Nat.mod_lt _ (by omega)
    have hm2 : (g + 1) % xs.length < xs.length := Nat.mod_lt _ (by omega)
    have hg1 : g < xs.length := by omega
    refine T_skip ?_
    refine T_seq ?_
    refine T_block ?_
    refine T_regionS ?_
    refine Run.one (ok_move rfl rfl) rfl rfl rfl ?_
    refine Run.one (ok_assign rfl rfl) rfl rfl rfl ?_
    refine Run.nil ?_
    refine T_drawS 25 (by kernel_rfl) ?_
    refine Run.one (ok_move rfl rfl) rfl rfl rfl ?_
    refine Run.one (ok_load rfl rfl) rfl rfl rfl ?_
    refine Run.one (ok_move rfl rfl) rfl rfl rfl ?_
    refine Run.one (ok_load rfl rfl) rfl rfl rfl ?_
    refine Run.one (ok_len rfl rfl) rfl rfl rfl ?_
    refine Run.one (ok_ari (z := ((g + xs.length : Nat) : Int)) rfl rfl rfl (congrArg some (by omega)) (wrap_i64 (by omega) (by omega))) rfl rfl rfl ?_
    refine Run.one (ok_ari (z := ((g + xs.length - 1 : Nat) : Int)) rfl rfl rfl (congrArg some (by omega)) (wrap_i64 (by omega) (by omega))) rfl rfl rfl ?_
    refine Run.one (ok_load rfl rfl) rfl rfl rfl ?_
    refine Run.one (ok_len rfl rfl) rfl rfl rfl ?_
    refine Run.one ((ok_rem rfl rfl rfl (by omega) (by omega)).sub (int_eq (n := (((g + xs.length - 1) % xs.length : Nat) : Int)) (by simp [Int.tmod_eq_emod_of_nonneg]))) rfl rfl rfl ?_
    refine Run.one (ok_indexAddr rfl rfl rfl (by omega) (y := (ring3 xs g).1) (get_getD hm1)) rfl rfl rfl ?_
    refine Run.one ((show OpOK _ _ _ _ _ (aggS (pc (ring3 xs g).1)) from ok_load_agg rfl rfl rfl rfl)) rfl rfl rfl ?_
    refine Run.one (ok_load rfl rfl) rfl rfl rfl ?_
    refine Run.one (ok_move rfl rfl) rfl rfl rfl ?_
    refine Run.one (ok_indexAddr rfl rfl rfl (by omega) (y := (ring3 xs g).2.1) (get_getD hg1)) rfl rfl rfl ?_
    refine Run.one ((show OpOK _ _ _ _ _ (aggS (pc (ring3 xs g).2.1)) from ok_load_agg rfl rfl rfl rfl)) rfl rfl rfl ?_
    refine Run.one (ok_load rfl rfl) rfl rfl rfl ?_
    refine Run.one (ok_move rfl rfl) rfl rfl rfl ?_
    refine Run.one (ok_ari (z := ((g + 1 : Nat) : Int)) rfl rfl rfl (congrArg some (by omega)) (wrap_i64 (by omega) (by omega))) rfl rfl rfl ?_
    refine Run.one (ok_load rfl rfl) rfl rfl rfl ?_
    refine Run.one (ok_len rfl rfl) rfl rfl rfl ?_
    refine Run.one ((ok_rem rfl rfl rfl (by omega) (by omega)).sub (int_eq (n := (((g + 1) % xs.length : Nat) : Int)) (by simp [Int.tmod_eq_emod_of_nonneg]))) rfl rfl rfl ?_
    refine Run.one (ok_indexAddr rfl rfl rfl (by omega) (y := (ring3 xs g).2.2) (get_getD hm2)) rfl rfl rfl ?_
    refine Run.one ((show OpOK _ _ _ _ _ (aggS (pc (ring3 xs g).2.2)) from ok_load_agg rfl rfl rfl rfl)) rfl rfl rfl ?_
    refine Run.one ((show OpOK _ _ _ _ _ (aggS (pc (ring3 xs g).1 ++ (pc (ring3 xs g).2.1 ++ pc (ring3 xs g).2.2))) from ok_build rfl rfl (by kernel_rfl))) rfl rfl rfl ?_
    refine Run.nil ?_
    refine Run.yield rfl hy rfl rfl rfl (ringX_get hg1) (subL_refl _) rfl rfl rfl fun y => ?_
    refine Run.one (ok_not rfl rfl) rfl rfl rfl ?_
    refine Run.nil ?_
    refine T_cond rfl rfl (fun h35 => ?_) (fun h35 => ?_)
    · refine T_ret ?_
      exact ⟨.inl rfl, .inr h35⟩
    · refine T_skip ?_
      refine T_region ?_
      refine Run.one (ok_ari (z := ((g + 1 : Nat) : Int)) rfl rfl rfl (congrArg some (by omega)) (wrap_i64 (by omega) (by omega))) rfl rfl rfl ?_
      refine Run.one (ok_move rfl rfl) rfl rfl rfl ?_
      refine Run.nil ?_
      exact ⟨g + 1, (by omega : g + 1 ≤ xs.length), by omega, rfl, subG_cons rfl (subG_cons rfl (subG_cons rfl (subG_cons rfl (subG_cons rfl (trivial))))), subH_refl _, rfl, by simp only; rw [h35]⟩
  · have k7 := of_decide_eq_false h7
    refine T_exit ?_
    exact ⟨.inr rfl, .inl (by rw [ringX_length, show g = xs.length by omega])⟩
theorem ring_spec {xs : List RawP} : PSpec Tryz.prog G 86 [slS 6 pc xs] (fnS 132 [ptrS [slS 6 pc xs]]) := by
  refine fn_spec Tryz.func86 rfl rfl rfl ?_
  refine T_regionS ?_
  refine Run.one (ok_box rfl rfl) rfl rfl rfl ?_
  refine Run.one (ok_assign rfl rfl) rfl rfl rfl ?_
  refine Run.nil ?_
  refine T_regionS ?_
  refine Run.one (ok_makeFunc rfl rfl) rfl rfl rfl ?_
  refine Run.one (ok_assign rfl rfl) rfl rfl rfl ?_
  refine Run.nil ?_
  refine T_ret ?_
  exact ⟨_, [], .one (.tmp rfl), List.nil_sublist _, rfl, rfl⟩
end Go.Proofs
/- Turns of a ring. -/
namespace Go.Proofs
open Go Go.Sv Num
variable {G : Imm}
/-- which way the ring turns at a corner -/
def turnV (xs : List RawP) (i : Nat) : Int := tri (crs (pv (ring3 xs i).1).1 (pv (ring3 xs i).1).2 (pv (ring3 xs i).2.1).1 (pv (ring3 xs i).2.1).2 (pv (ring3 xs i).2.2).1 (pv (ring3 xs i).2.2).2) 0
def turnsV (xs : List RawP) : List Int := if xs.length < 3 then [] else (List.range xs.length).map (turnV xs)
abbrev i64C (z : Int) : List SV := [intS .i64 z]
theorem flat_i64 : ∀ l : List Int, (l.flatMap i64C).length = l.length
  | [] => rfl
  | x :: l => by rw [List.flatMap_cons, List.length_append, flat_i64 l]; show 1 + l.length = l.length + 1; omega
theorem getD_mem {xs : List RawP} {i : Nat} (h : i < xs.length) : xs.getD i default ∈ xs := by simp [h]
theorem ring3_mem {xs : List RawP} {i : Nat} (h : i < xs.length) : (ring3 xs i).1 ∈ xs ∧ (ring3 xs i).2.1 ∈ xs ∧ (ring3 xs i).2.2 ∈ xs :=
  ⟨getD_mem (Nat.mod_lt _ (by omega)), getD_mem h, getD_mem (Nat.mod_lt _ (by omega))⟩
theorem side3_ring [Tab G] {xs : List RawP} {k i : Nat} (hk : 0 < k) (hl : ∀ p ∈ xs, PtOk k p) (hs : 800 * k + 30000 ≤ cap) (h : i < xs.length) : PSpec Tryz.prog G 54 [aggS (pc (ring3 xs i).1 ++ (pc (ring3 xs i).2.1 ++ pc (ring3 xs i).2.2))] (intS .i64 (turnV xs i)) := by
  obtain ⟨m1, m2, m3⟩ := ring3_mem h
  have i1 := isQ_lim (b := (ring3 xs i).1.1.1) (hl _ m1).1 hk
  have i2 := isQ_lim (b := (ring3 xs i).1.2.1) (hl _ m1).2 hk
  have i3 := isQ_lim (b := (ring3 xs i).2.1.1.1) (hl _ m2).1 hk
  have i4 := isQ_lim (b := (ring3 xs i).2.1.2.1) (hl _ m2).2 hk
  have i5 := isQ_lim (b := (ring3 xs i).2.2.1.1) (hl _ m3).1 hk
  have i6 := isQ_lim (b := (ring3 xs i).2.2.2.1) (hl _ m3).2 hk
  exact side3_spec (hx1 := i1) (hy1 := i2) (hx2 := i3) (hy2 := i4) (hx3 := i5) (hy3 := i6) (by omega)
theorem sTurns_spec [Tab G] {xs : List RawP} {k : Nat} (hk : 0 < k) (hl : ∀ p ∈ xs, PtOk k p) (hs : 800 * k + 30000 ≤ cap) (hxl : xs.length ≤ cap) : PSpec Tryz.prog G 47 [slS 6 pc xs] (slS 1 i64C (turnsV xs)) := by
  have hxl0 := hxl
  unfold cap at hxl0
  refine fn_spec Tryz.func47 rfl rfl rfl ?_
  refine T_regionS ?_
  refine Run.alloc rfl rfl rfl rfl rfl fun b2 => ?_
  refine Run.nil ?_
  refine T_seq ?_
  refine T_regionS ?_
  refine Run.one (ok_move rfl rfl) rfl rfl rfl ?_
  refine Run.one (ok_len rfl rfl) rfl rfl rfl ?_
  refine Run.one (ok_cmp rfl rfl rfl rfl) rfl rfl rfl ?_
  refine Run.nil ?_
  refine T_cond rfl rfl (fun h6 => ?_) (fun h6 => ?_)
  · have k6 := of_decide_eq_true h6
    refine T_regionS ?_
    refine Run.store 0 rfl rfl rfl rfl rfl rfl rfl rfl rfl ?_
    refine Run.ghost _ rfl (ghost_cell (s' := slS 1 i64C []) (fun I v h => by rw [show v = .slice none 0 0 from h]; exact nil_sl)) ?_
    refine Run.nil ?_
    refine T_ret ?_
    exact ⟨_, [], .one (.own 0 inferInstance rfl rfl rfl), List.nil_sublist _, by rw [show turnsV xs = [] from if_pos (by omega)], rfl⟩
  · have k6 := of_decide_eq_false h6
    refine T_skip ?_
    refine T_seq ?_
    refine T_ghost (ghost_row 3 1) ?_
    refine T_regionS ?_
    refine Run.one (ok_move rfl rfl) rfl rfl rfl ?_
    refine Run.one (ok_call rfl rfl ring_spec) rfl rfl rfl ?_
    refine Run.nil ?_
    refine T_block ?_
    refine T_rng rfl rfl ring1_spec (fun ss h => ringX_ss h) (by decide) rfl
      (fun k h i => i = (0, false) ∧ k ≤ xs.length ∧ ∃ q, rowOk q k ∧ h = [rowE q 3 1 k (((List.range k).map (turnV xs)).flatMap i64C), ⟨some b2, 44, [eqS (rowV q k)], 0⟩])
      (fun _ _ _ => False) ⟨rfl, Nat.zero_le _, none, rfl, rfl⟩ ?_ ?_ ?_
    · rintro l k' ss h i hk' ⟨rfl, _, q, hq, rfl⟩
      obtain ⟨hkl, rfl⟩ := ringX_inv hk'
      refine T_region ?_
      refine Run.alloc rfl rfl rfl rfl rfl fun b3 => ?_
      refine Run.store 0 rfl rfl rfl rfl rfl rfl rfl rfl rfl ?_
      refine Run.nil ?_
      refine ⟨rfl, ?_⟩
      refine T_block ?_
      refine T_draw 4 (by kernel_rfl) ?_
      refine Run.one (ok_load_own 2 rfl rfl rfl rfl) rfl rfl rfl ?_
      refine Run.one ((show OpOK _ _ _ _ _ (aggS (pc (ring3 xs k').1 ++ (pc (ring3 xs k').2.1 ++ pc (ring3 xs k').2.2))) from ok_load_own_agg 0 rfl rfl rfl (by kernel_rfl) rfl)) rfl rfl rfl ?_
      refine Run.one (ok_call rfl rfl (side3_ring hk hl hs hkl)) rfl rfl rfl ?_
      refine Run.one (ok_buildSlice rfl rfl (by decide) rfl (by simp) rfl rfl) rfl rfl rfl ?_
      refine Run.nil ?_
      refine Run.append 1 rfl rfl rfl rfl rfl rfl rfl rfl hq (by rw [flat_i64]; simp) (fun z hz => by rw [List.mem_singleton.1 hz]; rfl) (by unfold big; simp; omega) (by unfold big; simp; omega) fun q14 hq14 => ?_
      refine Run.store 2 rfl rfl rfl rfl rfl rfl rfl rfl rfl ?_
      refine Run.ghost _ rfl (ghost_drop (List.sublist_cons_self _ _)) ?_
      refine Run.nil ?_
      refine ⟨rfl, by omega, q14, hq14, ?_⟩
      rw [List.range_succ, List.map_append, List.flatMap_append]; rfl
    · rintro h i D ⟨rfl, _, q, hq, rfl⟩
      rw [ringX_length] at hq ⊢
      refine T_ghost (ghost_slc [] [] [] hq (l := (List.range xs.length).map (turnV xs)) (f := i64C) (by simp) rfl (fun _ _ => rfl) (by unfold big; omega)) ?_
      refine T_regionS ?_
      refine Run.one (ok_load_own 0 rfl rfl rfl rfl) rfl rfl rfl ?_
      refine Run.store 0 rfl rfl rfl rfl rfl rfl rfl rfl rfl ?_
      refine Run.nil ?_
      refine T_ret ?_
      exact ⟨_, [], .one (.own 0 inferInstance rfl rfl rfl), List.nil_sublist _, by rw [show turnsV xs = _ from if_neg (by omega)], rfl⟩
    · intro h i D e c hc hInv; exact hInv.elim
end Go.Proofs
/- How great points and numbers are. -/
namespace Go.Proofs
open Go Go.Sv Num
variable {G : Imm}
theorem T_cells {P : Program} {E : Env} {r : Option Nat} {S : St} {c : Code} {Q : Exit → St → Prop} {α : Type} {st : Nat} {f : α → List SV} {l : List α} (t : Nat) (hg : Go.Sv.look t S.g = some (slS st f l)) (h : (∀ x ∈ l, ∃ I, ∀ (j : Nat) s, (f x)[j]? = some s → ∃ v, s.den I v) → T P G E r c S Q) : T P G E r c S Q :=
  T_fact (fun I F a W hs => by
    obtain ⟨_, _, _, _, _, h3⟩ := hs.g t _ hg
    intro x hx
    refine ⟨I, fun j s hj => ?_⟩
    rcases h3 with h3 | ⟨b, o, _, h4⟩
    · rw [h3] at hx; cases hx
    · obtain ⟨i, hi⟩ := List.getElem?_of_mem hx
      obtain ⟨_, _, h5⟩ := h4 i x hi
      obtain ⟨v, _, hv, _⟩ := h5 j s hj
      exact ⟨v, hv⟩) h
theorem nat_big {I : Imm} {l : List Nat} (h : ∃ v, (natS l).den I v) : l.length ≤ big := by
  obtain ⟨_, _, _, _, _, h, _⟩ := h
  exact h
/-- sizes, each cut at 1000, added up -/
def gs {α : Type} (sz : α → Nat) (xs : List α) (k : Nat) : Nat := ((xs.take k).map fun p => min (sz p) 1000).sum
theorem gs_succ {α : Type} {sz : α → Nat} {xs : List α} {k : Nat} {p : α} (h : xs[k]? = some p) : gs sz xs (k + 1) = gs sz xs k + min (sz p) 1000 := by
  unfold gs; rw [List.take_add_one, h]; simp
theorem gs_le {α : Type} (sz : α → Nat) (xs : List α) : ∀ k, gs sz xs k ≤ 1000 * k
  | 0 => by simp [gs]
  | k + 1 => by
    have := gs_le sz xs k
    cases h : xs[k]? with
    | none => unfold gs at *; rw [List.take_add_one, h]; simp at *; omega
    | some p => rw [gs_succ h]; omega
def tsz (p : RawP) : Nat := p.1.2.1.length + p.1.2.2.length + p.2.2.1.length + p.2.2.2.length
def qtz (p : Bool × List Nat × List Nat) : Nat := p.2.1.length + p.2.2.length
theorem rqGreat_spec {xs : List (Bool × List Nat × List Nat)} : PSpec Tryz.prog G 9 [slS 3 qc xs] (boolS (decide (60 < xs.length ∨ 40 < gs qtz xs xs.length))) := by
  refine fn_spec Tryz.func9 rfl rfl rfl ?_
  refine T_regionS ?_
  refine Run.one (ok_assign rfl rfl) rfl rfl rfl ?_
  refine Run.nil ?_
  refine T_regionS ?_
  refine Run.one (ok_assign rfl rfl) rfl rfl rfl ?_
  refine Run.nil ?_
  refine T_seq ?_
  refine T_regionS ?_
  refine Run.one (ok_assign rfl rfl) rfl rfl rfl ?_
  refine Run.nil ?_
  refine T_block ?_
  refine T_len 0 rfl fun ha => T_cells 0 rfl fun hc => ?_
  unfold big at ha
  refine T_loop (γ := Nat) (fun i => ⟨_, [(4, intS .i64 (i : Nat)), (3, intS .i64 (gs qtz xs i : Nat)), (0, slS 3 qc xs)], [], [], (0, false)⟩) (fun i => i ≤ xs.length ∧ i ≤ 61) (fun i => xs.length - i) 0 ⟨Nat.zero_le _, by decide⟩ (ent_g (subG_cons rfl (subG_cons rfl (subG_cons rfl (trivial))))) ?_
  rintro i ⟨hi, hi2⟩
  have hgl := gs_le qtz xs i
  refine T_seq ?_
  refine T_regionS ?_
  refine Run.one (ok_move rfl rfl) rfl rfl rfl ?_
  refine Run.one (ok_move rfl rfl) rfl rfl rfl ?_
  refine Run.one (ok_len rfl rfl) rfl rfl rfl ?_
  refine Run.oneB (ok_cmp rfl rfl rfl rfl) rfl rfl rfl (fun h3_3 => ?_) (fun h3_3 => ?_)
  · have k3_3 := of_decide_eq_true h3_3
    refine Run.one (ok_move rfl rfl) rfl rfl rfl ?_
    refine Run.one (ok_move rfl rfl) ⟨_, _, rfl, rfl, rfl⟩ rfl rfl ?_
    refine Run.one (ok_cmp rfl rfl rfl rfl) ⟨_, _, rfl, rfl, rfl⟩ rfl rfl ?_
    refine Run.one (ok_pick rfl rfl rfl) rfl rfl rfl ?_
    refine Run.nil ?_
    refine T_cond rfl rfl (fun h12 => ?_) (fun h12 => ?_)
    · have k12 := of_decide_eq_true h12
      refine T_skip ?_
      refine T_seq ?_
      refine T_block ?_
      refine T_draw 18 (by kernel_rfl) ?_
      obtain ⟨⟨b, l, d⟩, hp⟩ : ∃ p, xs[i]? = some p := ⟨_, List.getElem?_eq_getElem (by omega)⟩
      have hgs := gs_succ (sz := qtz) hp
      obtain ⟨I0, hcc⟩ := hc _ (List.mem_of_getElem? hp)
      have hbl : l.length ≤ big := nat_big (hcc 1 _ rfl)
      have hbd : d.length ≤ big := nat_big (hcc 2 _ rfl)
      unfold big at hbl hbd
      simp only [qtz] at hgs
      refine Run.one (ok_move rfl rfl) rfl rfl rfl ?_
      refine Run.one (ok_move rfl rfl) rfl rfl rfl ?_
      refine Run.one (ok_move rfl rfl) rfl rfl rfl ?_
      refine Run.one (ok_indexAddr rfl rfl rfl (by omega) (y := (b, l, d)) (hp)) rfl rfl rfl ?_
      refine Run.one (ok_fieldAddr rfl rfl rfl) rfl rfl rfl ?_
      refine Run.one (ok_fieldAddr rfl rfl rfl) rfl rfl rfl ?_
      refine Run.one (ok_load rfl rfl) rfl rfl rfl ?_
      refine Run.one ((ok_len rfl rfl).sub (int_eq (n := ((l.length : Nat) : Int)) rfl)) rfl rfl rfl ?_
      refine Run.one (ok_move rfl rfl) rfl rfl rfl ?_
      refine Run.one (ok_move rfl rfl) rfl rfl rfl ?_
      refine Run.one (ok_indexAddr rfl rfl rfl (by omega) (y := (b, l, d)) (hp)) rfl rfl rfl ?_
      refine Run.one (ok_fieldAddr rfl rfl rfl) rfl rfl rfl ?_
      refine Run.one (ok_load rfl rfl) rfl rfl rfl ?_
      refine Run.one ((ok_len rfl rfl).sub (int_eq (n := ((d.length : Nat) : Int)) rfl)) rfl rfl rfl ?_
      refine Run.one (ok_ari (z := ((l.length + d.length : Nat) : Int)) rfl rfl rfl (congrArg some (by omega)) (wrap_i64 (by omega) (by omega))) rfl rfl rfl ?_
      refine Run.one (ok_min rfl rfl rfl) rfl rfl rfl ?_
      refine Run.one (ok_ari (z := ((gs qtz xs (i + 1) : Nat) : Int)) rfl rfl rfl (congrArg some (by omega)) (wrap_i64 (by omega) (by omega))) rfl rfl rfl ?_
      refine Run.one (ok_assign rfl rfl) rfl rfl rfl ?_
      refine Run.nil ?_
      refine Run.nil ?_
      refine T_region ?_
      refine Run.one (ok_move rfl rfl) rfl rfl rfl ?_
      refine Run.one (ok_ari (z := ((i + 1 : Nat) : Int)) rfl rfl rfl (congrArg some (by omega)) (wrap_i64 (by omega) (by omega))) rfl rfl rfl ?_
      refine Run.one (ok_assign rfl rfl) rfl rfl rfl ?_
      refine Run.nil ?_
      exact ⟨i + 1, ⟨by omega, by omega⟩, by omega, ent_g (subG_cons rfl (subG_cons rfl (subG_cons rfl (trivial))))⟩
    · have k12 := of_decide_eq_false h12
      refine T_exit ?_
      refine T_regionS ?_
      refine Run.one (ok_move rfl rfl) rfl rfl rfl ?_
      refine Run.one (ok_len rfl rfl) rfl rfl rfl ?_
      refine Run.one ((ok_cmp rfl rfl rfl rfl).sub (bool_eq (c := true) (decide_eq_true (by omega)))) rfl rfl rfl ?_
      refine Run.one (ok_move rfl rfl) rfl rfl rfl ?_
      refine Run.no ⟨_, _, rfl, rfl, rfl⟩ rfl rfl ?_
      refine Run.no ⟨_, _, rfl, rfl, rfl⟩ rfl rfl ?_
      refine Run.one (ok_pick rfl rfl rfl) rfl rfl rfl ?_
      refine Run.one (ok_assign rfl rfl) rfl rfl rfl ?_
      refine Run.nil ?_
      refine T_ret ?_
      exact ⟨_, [], .one (.tmp rfl), List.nil_sublist _, congrArg boolS (decide_eq_true (.inl (by omega))).symm, rfl⟩
  · have k3_3 := of_decide_eq_false h3_3
    refine Run.one (ok_move rfl rfl) rfl rfl rfl ?_
    refine Run.no ⟨_, _, rfl, rfl, rfl⟩ rfl rfl ?_
    refine Run.no ⟨_, _, rfl, rfl, rfl⟩ rfl rfl ?_
    refine Run.one (ok_pick rfl rfl rfl) rfl rfl rfl ?_
    refine Run.nil ?_
    refine T_condF rfl rfl ?_
    refine T_exit ?_
    refine T_regionS ?_
    refine Run.one (ok_move rfl rfl) rfl rfl rfl ?_
    refine Run.one (ok_len rfl rfl) rfl rfl rfl ?_
    refine Run.oneB (ok_cmp rfl rfl rfl rfl) rfl rfl rfl (fun h6_2 => ?_) (fun h6_2 => ?_)
    · have k6_2 := of_decide_eq_true h6_2
      refine Run.one (ok_move rfl rfl) rfl rfl rfl ?_
      refine Run.no ⟨_, _, rfl, rfl, rfl⟩ rfl rfl ?_
      refine Run.no ⟨_, _, rfl, rfl, rfl⟩ rfl rfl ?_
      refine Run.one (ok_pick rfl rfl rfl) rfl rfl rfl ?_
      refine Run.one (ok_assign rfl rfl) rfl rfl rfl ?_
      refine Run.nil ?_
      refine T_ret ?_
      exact ⟨_, [], .one (.tmp rfl), List.nil_sublist _, congrArg boolS (decide_eq_true (.inl (by omega))).symm, rfl⟩
    · have k6_2 := of_decide_eq_false h6_2
      refine Run.one (ok_move rfl rfl) rfl rfl rfl ?_
      refine Run.one (ok_move rfl rfl) ⟨_, _, rfl, rfl, rfl⟩ rfl rfl ?_
      refine Run.one ((ok_cmp rfl rfl rfl rfl).sub (bool_eq (c := decide (60 < xs.length ∨ 40 < gs qtz xs xs.length)) (by rw [show xs.length = i by omega]; exact decide_eq_decide.2 (by omega)))) ⟨_, _, rfl, rfl, rfl⟩ rfl rfl ?_
      refine Run.one (ok_pick rfl rfl rfl) rfl rfl rfl ?_
      refine Run.one (ok_assign rfl rfl) rfl rfl rfl ?_
      refine Run.nil ?_
      refine T_ret ?_
      exact ⟨_, [], .one (.tmp rfl), List.nil_sublist _, rfl, rfl⟩
theorem great9_spec {xs : List RawP} : PSpec Tryz.prog G 8 [slS 6 pc xs] (boolS (decide (20 < xs.length ∨ 80 < gs tsz xs xs.length))) := by
  refine fn_spec Tryz.func8 rfl rfl rfl ?_
  refine T_regionS ?_
  refine Run.one (ok_assign rfl rfl) rfl rfl rfl ?_
  refine Run.nil ?_
  refine T_regionS ?_
  refine Run.one (ok_assign rfl rfl) rfl rfl rfl ?_
  refine Run.nil ?_
  refine T_seq ?_
  refine T_regionS ?_
  refine Run.one (ok_assign rfl rfl) rfl rfl rfl ?_
  refine Run.nil ?_
  refine T_block ?_
  refine T_len 0 rfl fun ha => T_cells 0 rfl fun hc => ?_
  unfold big at ha
  refine T_loop (γ := Nat) (fun i => ⟨_, [(4, intS .i64 (i : Nat)), (3, intS .i64 (gs tsz xs i : Nat)), (0, slS 6 pc xs)], [], [], (0, false)⟩) (fun i => i ≤ xs.length ∧ i ≤ 21) (fun i => xs.length - i) 0 ⟨Nat.zero_le _, by decide⟩ (ent_g (subG_cons rfl (subG_cons rfl (subG_cons rfl (trivial))))) ?_
  rintro i ⟨hi, hi2⟩
  have hgl := gs_le tsz xs i
  refine T_seq ?_
  refine T_regionS ?_
  refine Run.one (ok_move rfl rfl) rfl rfl rfl ?_
  refine Run.one (ok_move rfl rfl) rfl rfl rfl ?_
  refine Run.one (ok_len rfl rfl) rfl rfl rfl ?_
  refine Run.oneB (ok_cmp rfl rfl rfl rfl) rfl rfl rfl (fun h3_3 => ?_) (fun h3_3 => ?_)
  · have k3_3 := of_decide_eq_true h3_3
    refine Run.one (ok_move rfl rfl) rfl rfl rfl ?_
    refine Run.one (ok_move rfl rfl) ⟨_, _, rfl, rfl, rfl⟩ rfl rfl ?_
    refine Run.one (ok_cmp rfl rfl rfl rfl) ⟨_, _, rfl, rfl, rfl⟩ rfl rfl ?_
    refine Run.one (ok_pick rfl rfl rfl) rfl rfl rfl ?_
    refine Run.nil ?_
    refine T_cond rfl rfl (fun h12 => ?_) (fun h12 => ?_)
    · have k12 := of_decide_eq_true h12
      refine T_skip ?_
      refine T_seq ?_
      refine T_block ?_
      refine T_draw 37 (by kernel_rfl) ?_
      obtain ⟨⟨⟨b, l, d⟩, ⟨c, m, e⟩⟩, hp⟩ : ∃ p, xs[i]? = some p := ⟨_, List.getElem?_eq_getElem (by omega)⟩
      have hgs := gs_succ (sz := tsz) hp
      obtain ⟨I0, hcc⟩ := hc _ (List.mem_of_getElem? hp)
      have hbl : l.length ≤ big := nat_big (hcc 1 _ rfl)
      have hbd : d.length ≤ big := nat_big (hcc 2 _ rfl)
      have hbm : m.length ≤ big := nat_big (hcc 4 _ rfl)
      have hbe : e.length ≤ big := nat_big (hcc 5 _ rfl)
      unfold big at hbl hbd hbm hbe
      simp only [tsz] at hgs
      refine Run.one (ok_move rfl rfl) rfl rfl rfl ?_
      refine Run.one (ok_move rfl rfl) rfl rfl rfl ?_
      refine Run.one (ok_move rfl rfl) rfl rfl rfl ?_
      refine Run.one (ok_indexAddr rfl rfl rfl (by omega) (y := ((b, l, d), (c, m, e))) (hp)) rfl rfl rfl ?_
      refine Run.one (ok_fieldAddr rfl rfl rfl) rfl rfl rfl ?_
      refine Run.one (ok_fieldAddr rfl rfl rfl) rfl rfl rfl ?_
      refine Run.one (ok_fieldAddr rfl rfl rfl) rfl rfl rfl ?_
      refine Run.one (ok_load rfl rfl) rfl rfl rfl ?_
      refine Run.one ((ok_len rfl rfl).sub (int_eq (n := ((l.length : Nat) : Int)) rfl)) rfl rfl rfl ?_
      refine Run.one (ok_move rfl rfl) rfl rfl rfl ?_
      refine Run.one (ok_move rfl rfl) rfl rfl rfl ?_
      refine Run.one (ok_indexAddr rfl rfl rfl (by omega) (y := ((b, l, d), (c, m, e))) (hp)) rfl rfl rfl ?_
      refine Run.one (ok_fieldAddr rfl rfl rfl) rfl rfl rfl ?_
      refine Run.one (ok_fieldAddr rfl rfl rfl) rfl rfl rfl ?_
      refine Run.one (ok_load rfl rfl) rfl rfl rfl ?_
      refine Run.one ((ok_len rfl rfl).sub (int_eq (n := ((d.length : Nat) : Int)) rfl)) rfl rfl rfl ?_
      refine Run.one (ok_ari (z := ((l.length + d.length : Nat) : Int)) rfl rfl rfl (congrArg some (by omega)) (wrap_i64 (by omega) (by omega))) rfl rfl rfl ?_
      refine Run.one (ok_move rfl rfl) rfl rfl rfl ?_
      refine Run.one (ok_move rfl rfl) rfl rfl rfl ?_
      refine Run.one (ok_indexAddr rfl rfl rfl (by omega) (y := ((b, l, d), (c, m, e))) (hp)) rfl rfl rfl ?_
      refine Run.one (ok_fieldAddr rfl rfl rfl) rfl rfl rfl ?_
      refine Run.one (ok_fieldAddr rfl rfl rfl) rfl rfl rfl ?_
      refine Run.one (ok_fieldAddr rfl rfl rfl) rfl rfl rfl ?_
      refine Run.one (ok_load rfl rfl) rfl rfl rfl ?_
      refine Run.one ((ok_len rfl rfl).sub (int_eq (n := ((m.length : Nat) : Int)) rfl)) rfl rfl rfl ?_
      refine Run.one (ok_ari (z := ((l.length + d.length + m.length : Nat) : Int)) rfl rfl rfl (congrArg some (by omega)) (wrap_i64 (by omega) (by omega))) rfl rfl rfl ?_
      refine Run.one (ok_move rfl rfl) rfl rfl rfl ?_
      refine Run.one (ok_move rfl rfl) rfl rfl rfl ?_
      refine Run.one (ok_indexAddr rfl rfl rfl (by omega) (y := ((b, l, d), (c, m, e))) (hp)) rfl rfl rfl ?_
      refine Run.one (ok_fieldAddr rfl rfl rfl) rfl rfl rfl ?_
      refine Run.one (ok_fieldAddr rfl rfl rfl) rfl rfl rfl ?_
      refine Run.one (ok_load rfl rfl) rfl rfl rfl ?_
      refine Run.one ((ok_len rfl rfl).sub (int_eq (n := ((e.length : Nat) : Int)) rfl)) rfl rfl rfl ?_
      refine Run.one (ok_ari (z := ((l.length + d.length + m.length + e.length : Nat) : Int)) rfl rfl rfl (congrArg some (by omega)) (wrap_i64 (by omega) (by omega))) rfl rfl rfl ?_
      refine Run.one (ok_min rfl rfl rfl) rfl rfl rfl ?_
      refine Run.one (ok_ari (z := ((gs tsz xs (i + 1) : Nat) : Int)) rfl rfl rfl (congrArg some (by omega)) (wrap_i64 (by omega) (by omega))) rfl rfl rfl ?_
      refine Run.one (ok_assign rfl rfl) rfl rfl rfl ?_
      refine Run.nil ?_
      refine Run.nil ?_
      refine T_region ?_
      refine Run.one (ok_move rfl rfl) rfl rfl rfl ?_
      refine Run.one (ok_ari (z := ((i + 1 : Nat) : Int)) rfl rfl rfl (congrArg some (by omega)) (wrap_i64 (by omega) (by omega))) rfl rfl rfl ?_
      refine Run.one (ok_assign rfl rfl) rfl rfl rfl ?_
      refine Run.nil ?_
      exact ⟨i + 1, ⟨by omega, by omega⟩, by omega, ent_g (subG_cons rfl (subG_cons rfl (subG_cons rfl (trivial))))⟩
    · have k12 := of_decide_eq_false h12
      refine T_exit ?_
      refine T_regionS ?_
      refine Run.one (ok_move rfl rfl) rfl rfl rfl ?_
      refine Run.one (ok_len rfl rfl) rfl rfl rfl ?_
      refine Run.one ((ok_cmp rfl rfl rfl rfl).sub (bool_eq (c := true) (decide_eq_true (by omega)))) rfl rfl rfl ?_
      refine Run.one (ok_move rfl rfl) rfl rfl rfl ?_
      refine Run.no ⟨_, _, rfl, rfl, rfl⟩ rfl rfl ?_
      refine Run.no ⟨_, _, rfl, rfl, rfl⟩ rfl rfl ?_
      refine Run.one (ok_pick rfl rfl rfl) rfl rfl rfl ?_
      refine Run.one (ok_assign rfl rfl) rfl rfl rfl ?_
      refine Run.nil ?_
      refine T_ret ?_
      exact ⟨_, [], .one (.tmp rfl), List.nil_sublist _, congrArg boolS (decide_eq_true (.inl (by omega))).symm, rfl⟩
  · have k3_3 := of_decide_eq_false h3_3
    refine Run.one (ok_move rfl rfl) rfl rfl rfl ?_
    refine Run.no ⟨_, _, rfl, rfl, rfl⟩ rfl rfl ?_
    refine Run.no ⟨_, _, rfl, rfl, rfl⟩ rfl rfl ?_
    refine Run.one (ok_pick rfl rfl rfl) rfl rfl rfl ?_
    refine Run.nil ?_
    refine T_condF rfl rfl ?_
    refine T_exit ?_
    refine T_regionS ?_
    refine Run.one (ok_move rfl rfl) rfl rfl rfl ?_
    refine Run.one (ok_len rfl rfl) rfl rfl rfl ?_
    refine Run.oneB (ok_cmp rfl rfl rfl rfl) rfl rfl rfl (fun h6_2 => ?_) (fun h6_2 => ?_)
    · have k6_2 := of_decide_eq_true h6_2
      refine Run.one (ok_move rfl rfl) rfl rfl rfl ?_
      refine Run.no ⟨_, _, rfl, rfl, rfl⟩ rfl rfl ?_
      refine Run.no ⟨_, _, rfl, rfl, rfl⟩ rfl rfl ?_
      refine Run.one (ok_pick rfl rfl rfl) rfl rfl rfl ?_
      refine Run.one (ok_assign rfl rfl) rfl rfl rfl ?_
      refine Run.nil ?_
      refine T_ret ?_
      exact ⟨_, [], .one (.tmp rfl), List.nil_sublist _, congrArg boolS (decide_eq_true (.inl (by omega))).symm, rfl⟩
    · have k6_2 := of_decide_eq_false h6_2
      refine Run.one (ok_move rfl rfl) rfl rfl rfl ?_
      refine Run.one (ok_move rfl rfl) ⟨_, _, rfl, rfl, rfl⟩ rfl rfl ?_
      refine Run.one ((ok_cmp rfl rfl rfl rfl).sub (bool_eq (c := decide (20 < xs.length ∨ 80 < gs tsz xs xs.length)) (by rw [show xs.length = i by omega]; exact decide_eq_decide.2 (by omega)))) ⟨_, _, rfl, rfl, rfl⟩ rfl rfl ?_
      refine Run.one (ok_pick rfl rfl rfl) rfl rfl rfl ?_
      refine Run.one (ok_assign rfl rfl) rfl rfl rfl ?_
      refine Run.nil ?_
      refine T_ret ?_
      exact ⟨_, [], .one (.tmp rfl), List.nil_sublist _, rfl, rfl⟩
end Go.Proofs
/- straitlaw09: what the document says of three points; the law SideTurns, on the facts. -/
namespace Go.Proofs
open Go Go.Sv Num
variable {G : Imm}
abbrev WK : List RawP := [rep (0, 0), rep (2, 0), rep (1, 1)]
theorem wk_turns : turnsV WK = [1, 1, 1] := by
  have e0 : turnV WK 0 = 1 := by
    show tri (crs (pv (rep (1, 1))).1 (pv (rep (1, 1))).2 (pv (rep (0, 0))).1 (pv (rep (0, 0))).2 (pv (rep (2, 0))).1 (pv (rep (2, 0))).2) 0 = 1
    rw [pv_rep, pv_rep, pv_rep]; kernel_rfl
  have e1 : turnV WK 1 = 1 := by
    show tri (crs (pv (rep (0, 0))).1 (pv (rep (0, 0))).2 (pv (rep (2, 0))).1 (pv (rep (2, 0))).2 (pv (rep (1, 1))).1 (pv (rep (1, 1))).2) 0 = 1
    rw [pv_rep, pv_rep, pv_rep]; kernel_rfl
  have e2 : turnV WK 2 = 1 := by
    show tri (crs (pv (rep (2, 0))).1 (pv (rep (2, 0))).2 (pv (rep (1, 1))).1 (pv (rep (1, 1))).2 (pv (rep (0, 0))).1 (pv (rep (0, 0))).2) 0 = 1
    rw [pv_rep, pv_rep, pv_rep]; kernel_rfl
  unfold turnsV
  rw [if_neg (by decide)]
  show [turnV WK 0, turnV WK 1, turnV WK 2] = [1, 1, 1]
  rw [e0, e1, e2]
theorem wk_ok : ∀ p ∈ WK, PtOk 1 p := by
  intro p hp
  simp only [List.mem_cons, List.not_mem_nil, or_false] at hp
  rcases hp with rfl | rfl | rfl
  · exact ptOk_rep (p := (0, 0)) inferInstance inferInstance
  · exact ptOk_rep (p := (2, 0)) inferInstance inferInstance
  · exact ptOk_rep (p := (1, 1)) inferInstance inferInstance
theorem turns_wk [Tab G] : PSpec Tryz.prog G 47 [slS 6 id (WK.map pc)] (slS 1 i64C [1, 1, 1]) := by
  have h := sTurns_spec (G := G) (xs := WK) (k := 1) (by decide) wk_ok (by decide) (by decide)
  rw [wk_turns] at h
  exact h.args ⟨fun _ _ h => sl_pair (f := pc) WK h, trivial⟩
instance bq_five : Bq 5 1 := ⟨by decide, by decide⟩
theorem wakes9_spec [Tab G] : PSpec Tryz.prog G 10 [] (boolS true) := by
  refine fn_spec Tryz.func10 rfl rfl rfl ?_
  refine T_regionS ?_
  refine Run.one (ok_assign rfl rfl) rfl rfl rfl ?_
  refine Run.nil ?_
  refine T_regionS ?_
  refine Run.one (ok_call rfl rfl (rpOf_spec (n := 0) (m := 0) (p := 0) (q := 0) (by decide) (by decide) (by decide) (by decide))) rfl rfl rfl ?_
  refine Run.one (ok_call rfl rfl (rpOf_spec (n := 2) (m := 0) (p := 2) (q := 0) (by decide) (by decide) (by decide) (by decide))) rfl rfl rfl ?_
  refine Run.alloc rfl rfl rfl rfl rfl fun b1 => ?_
  refine Run.alloc rfl rfl rfl rfl rfl fun b2 => ?_
  refine Run.store 1 rfl rfl rfl rfl rfl rfl rfl rfl rfl ?_
  refine Run.store 0 rfl rfl rfl rfl rfl rfl rfl rfl rfl ?_
  refine Run.nil ?_
  refine T_drawS 6 (by kernel_rfl) ?_
  refine Run.one (ok_load_own_agg 1 rfl rfl rfl rfl rfl) rfl rfl rfl ?_
  refine Run.one (ok_load_own_agg 0 rfl rfl rfl rfl rfl) rfl rfl rfl ?_
  refine Run.one (ok_call rfl rfl (rpOf_spec (n := 1) (m := 1) (p := 1) (q := 1) (by decide) (by decide) (by decide) (by decide))) rfl rfl rfl ?_
  refine Run.one (ok_buildSlice rfl rfl (by decide) rfl (by simp) (by kernel_rfl) (by kernel_rfl)) rfl rfl rfl ?_
  refine Run.one (ok_call rfl rfl turns_wk) rfl rfl rfl ?_
  refine Run.one (ok_assign rfl rfl) rfl rfl rfl ?_
  refine Run.nil ?_
  refine Run.nil ?_
  refine T_drawS 55 (by kernel_rfl) ?_
  refine Run.one (ok_load_own_agg 1 rfl rfl rfl rfl rfl) rfl rfl rfl ?_
  refine Run.one (ok_load_own_agg 0 rfl rfl rfl rfl rfl) rfl rfl rfl ?_
  refine Run.one (ok_call rfl rfl (rpOf_spec (n := 1) (m := 1) (p := 1) (q := 1) (by decide) (by decide) (by decide) (by decide))) rfl rfl rfl ?_
  refine Run.one ((ok_call rfl rfl sSide_spec).sub (int_eq (n := 1) (by kernel_rfl))) rfl rfl rfl ?_
  refine Run.one (ok_cmp rfl rfl rfl rfl) rfl rfl rfl ?_
  refine Run.one (ok_move rfl rfl) rfl rfl rfl ?_
  refine Run.one (ok_load_own_agg 1 rfl rfl rfl rfl rfl) ⟨_, _, rfl, rfl, rfl⟩ rfl rfl ?_
  refine Run.one (ok_load_own_agg 0 rfl rfl rfl rfl rfl) ⟨_, _, rfl, rfl, rfl⟩ rfl rfl ?_
  refine Run.one (ok_call rfl rfl (rpOf_spec (n := 1) (m := -1) (p := 1) (q := -1) (by decide) (by decide) (by decide) (by decide))) ⟨_, _, rfl, rfl, rfl⟩ rfl rfl ?_
  refine Run.one ((ok_call rfl rfl sSide_spec).sub (int_eq (n := -1) (by kernel_rfl))) ⟨_, _, rfl, rfl, rfl⟩ rfl rfl ?_
  refine Run.one (ok_cmp rfl rfl rfl rfl) ⟨_, _, rfl, rfl, rfl⟩ rfl rfl ?_
  refine Run.one (ok_pick rfl rfl rfl) rfl rfl rfl ?_
  refine Run.one (ok_move rfl rfl) rfl rfl rfl ?_
  refine Run.one (ok_load_own_agg 1 rfl rfl rfl rfl rfl) ⟨_, _, rfl, rfl, rfl⟩ rfl rfl ?_
  refine Run.one (ok_load_own_agg 0 rfl rfl rfl rfl rfl) ⟨_, _, rfl, rfl, rfl⟩ rfl rfl ?_
  refine Run.one (ok_call rfl rfl (rpOf_spec (n := 1) (m := 0) (p := 1) (q := 0) (by decide) (by decide) (by decide) (by decide))) ⟨_, _, rfl, rfl, rfl⟩ rfl rfl ?_
  refine Run.one ((ok_call rfl rfl sWithin_spec).sub (bool_eq (c := true) (by kernel_rfl))) ⟨_, _, rfl, rfl, rfl⟩ rfl rfl ?_
  refine Run.one (ok_pick rfl rfl rfl) rfl rfl rfl ?_
  refine Run.one (ok_move rfl rfl) rfl rfl rfl ?_
  refine Run.one (ok_load_own_agg 1 rfl rfl rfl rfl rfl) ⟨_, _, rfl, rfl, rfl⟩ rfl rfl ?_
  refine Run.one (ok_load_own_agg 0 rfl rfl rfl rfl rfl) ⟨_, _, rfl, rfl, rfl⟩ rfl rfl ?_
  refine Run.one (ok_load_own_agg 0 rfl rfl rfl rfl rfl) ⟨_, _, rfl, rfl, rfl⟩ rfl rfl ?_
  refine Run.one ((ok_call rfl rfl sWithin_spec).sub (bool_eq (c := false) (by kernel_rfl))) ⟨_, _, rfl, rfl, rfl⟩ rfl rfl ?_
  refine Run.one (ok_not rfl rfl) ⟨_, _, rfl, rfl, rfl⟩ rfl rfl ?_
  refine Run.one (ok_pick rfl rfl rfl) rfl rfl rfl ?_
  refine Run.one (ok_move rfl rfl) rfl rfl rfl ?_
  refine Run.one (ok_load_own_agg 1 rfl rfl rfl rfl rfl) ⟨_, _, rfl, rfl, rfl⟩ rfl rfl ?_
  refine Run.one (ok_load_own_agg 0 rfl rfl rfl rfl rfl) ⟨_, _, rfl, rfl, rfl⟩ rfl rfl ?_
  refine Run.one (ok_load_own_agg 0 rfl rfl rfl rfl rfl) ⟨_, _, rfl, rfl, rfl⟩ rfl rfl ?_
  refine Run.one ((ok_call rfl rfl sOn_spec).sub (bool_eq (c := true) (by kernel_rfl))) ⟨_, _, rfl, rfl, rfl⟩ rfl rfl ?_
  refine Run.one (ok_pick rfl rfl rfl) rfl rfl rfl ?_
  refine Run.one (ok_move rfl rfl) rfl rfl rfl ?_
  refine Run.one (ok_load_own_agg 1 rfl rfl rfl rfl rfl) ⟨_, _, rfl, rfl, rfl⟩ rfl rfl ?_
  refine Run.one (ok_load_own_agg 0 rfl rfl rfl rfl rfl) ⟨_, _, rfl, rfl, rfl⟩ rfl rfl ?_
  refine Run.one (ok_call rfl rfl (rpOf_spec (n := 5) (m := 0) (p := 5) (q := 0) (by decide) (by decide) (by decide) (by decide))) ⟨_, _, rfl, rfl, rfl⟩ rfl rfl ?_
  refine Run.one ((ok_call rfl rfl sStraight_spec).sub (bool_eq (c := true) (by kernel_rfl))) ⟨_, _, rfl, rfl, rfl⟩ rfl rfl ?_
  refine Run.one (ok_pick rfl rfl rfl) rfl rfl rfl ?_
  refine Run.one (ok_move rfl rfl) rfl rfl rfl ?_
  refine Run.one (ok_move rfl rfl) ⟨_, _, rfl, rfl, rfl⟩ rfl rfl ?_
  refine Run.one (ok_len rfl rfl) ⟨_, _, rfl, rfl, rfl⟩ rfl rfl ?_
  refine Run.one (ok_cmp rfl rfl rfl rfl) ⟨_, _, rfl, rfl, rfl⟩ rfl rfl ?_
  refine Run.one (ok_pick rfl rfl rfl) rfl rfl rfl ?_
  refine Run.one (ok_move rfl rfl) rfl rfl rfl ?_
  refine Run.one (ok_move rfl rfl) ⟨_, _, rfl, rfl, rfl⟩ rfl rfl ?_
  refine Run.one (ok_indexAddr rfl rfl rfl (by omega) (y := (1 : Int)) (rfl)) ⟨_, _, rfl, rfl, rfl⟩ rfl rfl ?_
  refine Run.one (ok_load rfl rfl) ⟨_, _, rfl, rfl, rfl⟩ rfl rfl ?_
  refine Run.one (ok_cmp rfl rfl rfl rfl) ⟨_, _, rfl, rfl, rfl⟩ rfl rfl ?_
  refine Run.one (ok_pick rfl rfl rfl) rfl rfl rfl ?_
  refine Run.one (ok_move rfl rfl) rfl rfl rfl ?_
  refine Run.one (ok_move rfl rfl) ⟨_, _, rfl, rfl, rfl⟩ rfl rfl ?_
  refine Run.one (ok_indexAddr rfl rfl rfl (by omega) (y := (1 : Int)) (rfl)) ⟨_, _, rfl, rfl, rfl⟩ rfl rfl ?_
  refine Run.one (ok_load rfl rfl) ⟨_, _, rfl, rfl, rfl⟩ rfl rfl ?_
  refine Run.one (ok_cmp rfl rfl rfl rfl) ⟨_, _, rfl, rfl, rfl⟩ rfl rfl ?_
  refine Run.one (ok_pick rfl rfl rfl) rfl rfl rfl ?_
  refine Run.one (ok_assign rfl rfl) rfl rfl rfl ?_
  refine Run.nil ?_
  refine Run.nil ?_
  refine T_ret ?_
  exact ⟨_, [], .one (.tmp rfl), List.nil_sublist _, rfl, rfl⟩
end Go.Proofs
