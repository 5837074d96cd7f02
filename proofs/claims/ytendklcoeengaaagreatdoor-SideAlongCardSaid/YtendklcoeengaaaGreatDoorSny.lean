/- The laws VecWays, VecOrder, VecTells, on the facts. -/
import Derived.Test.YtendklcoeengaaaGreatDoorSnx
namespace Go.Proofs
open Go Go.Sv Num
variable {G : Imm}
theorem tri_ge0 {p q : Rat} (h : 0 ≤ tri p q) : q ≤ p := by
  unfold tri at h; by_cases h1 : p < q
  · rw [if_pos h1] at h; exact absurd h (by decide)
  · exact Rat.not_lt.1 h1
theorem tri_nge0 {p q : Rat} (h : ¬ 0 ≤ tri p q) : p < q := by
  unfold tri at h; by_cases h1 : p < q
  · exact h1
  · rw [if_neg h1] at h; split at h <;> exact absurd (by decide) h
theorem tri_le0 {p q : Rat} (h : tri p q ≤ 0) : p ≤ q := by
  unfold tri at h; by_cases h1 : p < q
  · exact Rat.le_of_lt h1
  · rw [if_neg h1] at h; by_cases h2 : q < p
    · rw [if_pos h2] at h; exact absurd h (by decide)
    · exact Rat.not_lt.1 h2
theorem tri_nlt {p q : Rat} (h : q ≤ p) : decide (tri p q < 0) = false := by
  refine decide_eq_false fun h1 => ?_
  unfold tri at h1; rw [if_neg (Rat.not_lt.2 h)] at h1; split at h1 <;> exact absurd h1 (by decide)
theorem dist_comm (x u : Rat) : dist x u = dist u x := by unfold dist; split <;> split <;> grind
theorem dist_nn (x u : Rat) : 0 ≤ dist x u := by unfold dist; split <;> grind
theorem dist_zero {x u : Rat} : dist x u = 0 ↔ x = u := by unfold dist; split <;> grind
theorem dist_tri (x v u : Rat) : dist x u ≤ dist x v + dist v u := by unfold dist; split <;> split <;> split <;> grind
theorem dist_mid {t : Rat} (h0 : 0 ≤ t) (h1 : t ≤ 1) (x u : Rat) : dist x (x + (u - x) * t) + dist (x + (u - x) * t) u = dist x u := by
  obtain ⟨w, hw⟩ : ∃ w, w = u - x := ⟨_, rfl⟩
  obtain ⟨z, hz⟩ : ∃ z, z = w * t := ⟨_, rfl⟩
  have hu : u = x + w := by grind
  rw [← hw, ← hz, hu]
  have h2 : 0 ≤ 1 - t := by grind
  by_cases hs : 0 ≤ w
  · have g1 : 0 ≤ w * t := Rat.mul_nonneg hs h0
    have g2 : 0 ≤ w * (1 - t) := Rat.mul_nonneg hs h2
    have g3 : w * (1 - t) = w - z := by grind
    unfold dist; split <;> split <;> split <;> grind
  · have g1 : 0 ≤ (-w) * t := Rat.mul_nonneg (by grind) h0
    have g2 : 0 ≤ (-w) * (1 - t) := Rat.mul_nonneg (by grind) h2
    have g3 : (-w) * (1 - t) = z - w := by grind
    have g4 : (-w) * t = -z := by grind
    unfold dist; split <;> split <;> split <;> grind
theorem far_zero {x u y v : Rat} : (tri (dist x u + dist y v) 0 == 0) = decide (x = u ∧ y = v) := by
  rw [tri_zero]
  refine decide_eq_decide.2 ⟨fun h => ?_, fun ⟨h1, h2⟩ => ?_⟩
  · have g1 := dist_nn x u
    have g2 := dist_nn y v
    exact ⟨dist_zero.1 (by grind), dist_zero.1 (by grind)⟩
  · rw [dist_zero.2 h1, dist_zero.2 h2]; exact Rat.add_zero 0
theorem tri_bd (p q : Rat) : tri p q = -1 ∨ tri p q = 0 ∨ tri p q = 1 := by
  unfold tri; split
  · exact .inl rfl
  · split
    · exact .inr (.inr rfl)
    · exact .inr (.inl rfl)
theorem triP_bd (x y u v : Rat) : triP x y u v = -1 ∨ triP x y u v = 0 ∨ triP x y u v = 1 := by
  unfold triP; split
  · exact tri_bd y v
  · exact tri_bd x u
theorem tri_anti (p q : Rat) : tri q p = -tri p q := by
  unfold tri; split <;> split <;> first | rfl | grind
theorem triP_anti (x y u v : Rat) : triP u v x y = -triP x y u v := by
  unfold triP; rw [tri_anti x u, tri_anti y v]; split <;> split <;> first | rfl | omega
theorem tri_shift (p q r : Rat) : tri (p + r) (q + r) = tri p q := by
  unfold tri; split <;> split <;> first | rfl | grind
theorem tri_negs (p q : Rat) : tri (-q) (-p) = tri p q := by
  unfold tri; split <;> split <;> first | rfl | grind
theorem triP_shift (x y u v a b : Rat) : triP (x + a) (y + b) (u + a) (v + b) = triP x y u v := by unfold triP; rw [tri_shift, tri_shift]
theorem triP_negs (x y u v : Rat) : triP (-u) (-v) (-x) (-y) = triP x y u v := by unfold triP; rw [tri_negs, tri_negs]
theorem tri_lt0 {p q : Rat} : tri p q < 0 ↔ p < q := by
  unfold tri; split
  · exact ⟨fun _ => by assumption, fun _ => by decide⟩
  · split <;> constructor <;> intro h <;> first | exact absurd h (by decide) | grind
theorem triP_trans {x y u v a b : Rat} (h1 : triP x y u v < 0) (h2 : triP u v a b < 0) : triP x y a b < 0 := by
  unfold triP at *
  by_cases e1 : tri x u = 0
  · rw [if_pos e1] at h1
    have e1' := tri_eq.1 e1
    subst e1'
    by_cases e2 : tri x a = 0
    · rw [if_pos e2] at h2 ⊢; exact tri_lt0.2 (by have := tri_lt0.1 h1; have := tri_lt0.1 h2; grind)
    · rw [if_neg e2] at h2 ⊢; exact h2
  · rw [if_neg e1] at h1
    have l1 := tri_lt0.1 h1
    by_cases e2 : tri u a = 0
    · have e2' := tri_eq.1 e2
      subst e2'
      rw [if_neg e1]; exact h1
    · rw [if_neg e2] at h2
      have l2 := tri_lt0.1 h2
      rw [if_neg (fun h => by have := tri_eq.1 h; grind)]; exact tri_lt0.2 (by grind)
abbrev rep (p : Rat × Rat) : (Bool × List Nat × List Nat) × (Bool × List Nat × List Nat) := ((decide (p.1.num < 0), dig p.1.num.natAbs, dig p.1.den), (decide (p.2.num < 0), dig p.2.num.natAbs, dig p.2.den))
theorem pv_rep (p : Rat × Rat) : pv (rep p) = p := by
  have h : ∀ q : Rat, qv (decide (q.num < 0), dig q.num.natAbs, dig q.den) = q := fun q => by
    show mkRat (sgn _ (val _)) (val _) = q
    rw [val_dig, val_dig, sgn_self, Rat.mkRat_self]
  show (qv _, qv _) = p
  rw [h, h]
theorem map_rep (l : List (Rat × Rat)) : (l.map rep).map pv = l := by
  rw [List.map_map]
  exact (List.map_congr_left fun p _ => pv_rep p).trans (List.map_id l)
theorem sl_rep {l : List (Rat × Rat)} {I : Imm} {v : Value} (h : (slS 6 pcan l).den I v) : (slS 6 pc (l.map rep)).den I v := by
  obtain ⟨a, cap, hv, h1, h2, h3⟩ := h
  refine ⟨a, cap, by rw [List.length_map]; exact hv, by rw [List.length_map]; exact h1, by rw [List.length_map]; exact h2, ?_⟩
  rcases h3 with h3 | ⟨b, o, ha, h4⟩
  · exact .inl (by rw [h3]; rfl)
  · refine .inr ⟨b, o, ha, fun i x hx => ?_⟩
    rw [List.getElem?_map, Option.map_eq_some_iff] at hx
    obtain ⟨p, hp, rfl⟩ := hx
    exact h4 i p hp
theorem ptOk_rep {p : Rat × Rat} {k : Nat} (h1 : Bq p.1 k) (h2 : Bq p.2 k) : PtOk k (rep p) := ⟨⟨lim_dig _, lim_dig _, h1.lens.1, h1.lens.2⟩, lim_dig _, lim_dig _, h2.lens.1, h2.lens.2⟩
theorem vNormL [Tab G] {ps : List ((Bool × List Nat × List Nat) × (Bool × List Nat × List Nat))} {k : Nat} (hk : 0 < k) (hl : ∀ p ∈ ps, PtOk k p) (hs : 2 * k + 11000 ≤ cap) (hxl : ps.length ≤ cap) : PSpec Tryz.prog G 139 [slS 6 id (ps.map pc)] (slS 6 pcan (ps.map pv)) :=
  (vNorm_spec hk hl hs hxl).args ⟨fun _ _ h => sl_pair (f := pc) ps h, trivial⟩
end Go.Proofs
