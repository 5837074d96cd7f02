/- Polygons: an edge's inner point put in; plain facts. -/
import Derived.Test.YtofplgefmjojjaaGreatDoorSgb
namespace Num
open Go Go.Proofs
def atP (a b : V2) (t : Rat) : V2 := (a.1 + (b.1 - a.1) * t, a.2 + (b.2 - a.2) * t)
theorem on_par {a b q : V2} : onS a b q ↔ ∃ s, 0 ≤ s ∧ s ≤ 1 ∧ q = atP a b s := by
  constructor
  · intro h
    have hc := h.1
    unfold cr crs at hc
    have fin : ∀ s, q = atP a b s → ∃ s, 0 ≤ s ∧ s ≤ 1 ∧ q = atP a b s := fun s e => by
      subst e
      rcases onP_at.1 h with ⟨h1, h2⟩ | ⟨h1, h2⟩
      · exact ⟨s, h1, h2, rfl⟩
      · exact ⟨0, by grind, by grind, Prod.ext (by show a.1 + (b.1 - a.1) * s = a.1 + (b.1 - a.1) * 0; rw [h1]; grind) (by show a.2 + (b.2 - a.2) * s = a.2 + (b.2 - a.2) * 0; rw [h2]; grind)⟩
    by_cases h1 : b.1 - a.1 = 0
    · by_cases h2 : b.2 - a.2 = 0
      · have e1 : q.1 = a.1 := by have := h.2.1; unfold btw at this; grind
        have e2 : q.2 = a.2 := by have := h.2.2; unfold btw at this; grind
        exact fin 0 (Prod.ext (by show q.1 = a.1 + (b.1 - a.1) * 0; grind) (by show q.2 = a.2 + (b.2 - a.2) * 0; grind))
      · have e : (q.2 - a.2) / (b.2 - a.2) * (b.2 - a.2) = q.2 - a.2 := Rat.div_mul_cancel h2
        refine fin ((q.2 - a.2) / (b.2 - a.2)) (Prod.ext ?_ ?_)
        · show q.1 = a.1 + (b.1 - a.1) * _
          have := mz (d := b.2 - a.2) (x := q.1 - a.1) (by grind) h2
          rw [h1]; grind
        · show q.2 = a.2 + (b.2 - a.2) * _
          grind
    · have e : (q.1 - a.1) / (b.1 - a.1) * (b.1 - a.1) = q.1 - a.1 := Rat.div_mul_cancel h1
      refine fin ((q.1 - a.1) / (b.1 - a.1)) (Prod.ext ?_ ?_)
      · show q.1 = a.1 + (b.1 - a.1) * _
        grind
      · show q.2 = a.2 + (b.2 - a.2) * _
        obtain ⟨s, hs⟩ : ∃ s, s = (q.1 - a.1) / (b.1 - a.1) := ⟨_, rfl⟩
        rw [← hs] at e ⊢
        have := mz (d := b.1 - a.1) (x := q.2 - a.2 - (b.2 - a.2) * s) (by grind) h1
        grind
  · rintro ⟨s, h0, h1, rfl⟩
    exact onP_at.2 (.inl ⟨h0, h1⟩)
theorem at_inj {a b : V2} {s t : Rat} (h : a ≠ b) (e : atP a b s = atP a b t) : s = t := by
  have e1 : a.1 + (b.1 - a.1) * s = a.1 + (b.1 - a.1) * t := congrArg Prod.fst e
  have e2 : a.2 + (b.2 - a.2) * s = a.2 + (b.2 - a.2) * t := congrArg Prod.snd e
  rcases ne2 h with h | h
  · have := mz (d := b.1 - a.1) (x := s - t) (by grind) h; grind
  · have := mz (d := b.2 - a.2) (x := s - t) (by grind) h; grind
theorem at_zero (a b : V2) : atP a b 0 = a := Prod.ext (by show a.1 + (b.1 - a.1) * 0 = _; grind) (by show a.2 + (b.2 - a.2) * 0 = _; grind)
theorem at_one (a b : V2) : atP a b 1 = b := Prod.ext (by show a.1 + (b.1 - a.1) * 1 = _; grind) (by show a.2 + (b.2 - a.2) * 1 = _; grind)
theorem at_lo (a b : V2) (t s : Rat) : atP a (atP a b t) s = atP a b (t * s) := Prod.ext (by show a.1 + (a.1 + (b.1 - a.1) * t - a.1) * s = a.1 + (b.1 - a.1) * (t * s); grind) (by show a.2 + (a.2 + (b.2 - a.2) * t - a.2) * s = a.2 + (b.2 - a.2) * (t * s); grind)
theorem at_hi (a b : V2) (t s : Rat) : atP (atP a b t) b s = atP a b (t + (1 - t) * s) := Prod.ext (by show a.1 + (b.1 - a.1) * t + (b.1 - (a.1 + (b.1 - a.1) * t)) * s = a.1 + (b.1 - a.1) * (t + (1 - t) * s); grind) (by show a.2 + (b.2 - a.2) * t + (b.2 - (a.2 + (b.2 - a.2) * t)) * s = a.2 + (b.2 - a.2) * (t + (1 - t) * s); grind)
theorem part_of {t u : Rat} (ht : 0 < t) (h0 : 0 ≤ u) (h1 : u ≤ t) : ∃ s, 0 ≤ s ∧ s ≤ 1 ∧ u = t * s := by
  have hne : t ≠ 0 := by grind
  have e : u / t * t = u := Rat.div_mul_cancel hne
  obtain ⟨s, hs⟩ : ∃ s, s = u / t := ⟨_, rfl⟩
  rw [← hs] at e
  refine ⟨s, Rat.not_lt.1 fun h => ?_, Rat.not_lt.1 fun h => ?_, by grind⟩
  · have := Rat.mul_pos ht (show 0 < -s by grind); grind
  · have := Rat.mul_pos ht (show 0 < s - 1 by grind); grind
theorem on_lo {a b q : V2} {t : Rat} (ht : 0 < t) : onS a (atP a b t) q ↔ ∃ s, 0 ≤ s ∧ s ≤ t ∧ q = atP a b s := by
  rw [on_par]
  constructor
  · rintro ⟨s, h0, h1, rfl⟩
    have g1 := Rat.mul_nonneg (show 0 ≤ t by grind) h0
    have g2 := Rat.mul_nonneg (show 0 ≤ t by grind) (show 0 ≤ 1 - s by grind)
    exact ⟨t * s, g1, by grind, at_lo ..⟩
  · rintro ⟨s, h0, h1, rfl⟩
    obtain ⟨u, u0, u1, e⟩ := part_of ht h0 h1
    exact ⟨u, u0, u1, by rw [at_lo, e]⟩
theorem on_hi {a b q : V2} {t : Rat} (ht : t < 1) : onS (atP a b t) b q ↔ ∃ s, t ≤ s ∧ s ≤ 1 ∧ q = atP a b s := by
  rw [on_par]
  constructor
  · rintro ⟨s, h0, h1, rfl⟩
    have g1 := Rat.mul_nonneg (show 0 ≤ 1 - t by grind) h0
    have g2 := Rat.mul_nonneg (show 0 ≤ 1 - t by grind) (show 0 ≤ 1 - s by grind)
    exact ⟨t + (1 - t) * s, by grind, by grind, at_hi ..⟩
  · rintro ⟨s, h0, h1, rfl⟩
    obtain ⟨u, u0, u1, e⟩ := part_of (t := 1 - t) (u := s - t) (by grind) (by grind) (by grind)
    exact ⟨u, u0, u1, by rw [at_hi, ← e]; congr 1; grind⟩
section
variable {a b : V2} {t : Rat} (h0 : 0 < t) (h1 : t < 1) (hab : a ≠ b)
include h0 h1
theorem on_split {q : V2} : onS a b q ↔ onS a (atP a b t) q ∨ onS (atP a b t) b q := by
  rw [on_lo h0, on_hi h1, on_par]
  constructor
  · rintro ⟨s, g0, g1, rfl⟩
    by_cases h : s ≤ t
    · exact .inl ⟨s, g0, h, rfl⟩
    · exact .inr ⟨s, by grind, g1, rfl⟩
  · rintro (⟨s, g0, g1, rfl⟩ | ⟨s, g0, g1, rfl⟩)
    · exact ⟨s, g0, by grind, rfl⟩
    · exact ⟨s, by grind, g1, rfl⟩
include hab
theorem on_mid {q : V2} (h2 : onS a (atP a b t) q) (h3 : onS (atP a b t) b q) : q = atP a b t := by
  obtain ⟨s, _, g1, rfl⟩ := (on_lo h0).1 h2
  obtain ⟨u, g2, _, e⟩ := (on_hi h1).1 h3
  have := at_inj hab e
  rw [show s = t by grind]
theorem not_lo : ¬ onS a (atP a b t) b := fun h => by
  obtain ⟨s, _, g1, e⟩ := (on_lo h0).1 h
  have := at_inj hab ((at_one a b).trans e)
  grind
theorem not_hi : ¬ onS (atP a b t) b a := fun h => by
  obtain ⟨s, g1, _, e⟩ := (on_hi h1).1 h
  have := at_inj hab ((at_zero a b).trans e)
  grind
theorem at_ne : atP a b t ≠ a ∧ atP a b t ≠ b := ⟨fun e => by have := at_inj hab (e.trans (at_zero a b).symm); grind, fun e => by have := at_inj hab (e.trans (at_one a b).symm); grind⟩
end
theorem on_left (a b : V2) : onS a b a := on_par.2 ⟨0, by grind, by grind, (at_zero a b).symm⟩
theorem on_right (a b : V2) : onS a b b := on_par.2 ⟨1, by grind, by grind, (at_one a b).symm⟩
theorem kin_at {a b c d p : V2} (h : kin a b c d = 1) (hp : Bo a b c d p) : ∀ q, Bo a b c d q → q = p := fun q hq => by
  obtain ⟨r, _, hr⟩ := kin_one.1 h
  rw [hr q hq, hr p hp]
theorem simB_iff {l : List V2} : simB l = true ↔ 3 ≤ l.length ∧ ∀ i j, i < j → j < l.length → cor l i ≠ cor l j ∧ kin (cor l i) (cor l (i + 1)) (cor l j) (cor l (j + 1)) = wantF l.length i j := by
  unfold simB
  rw [Bool.and_eq_true, decide_eq_true_iff, List.all_eq_true]
  refine and_congr_right fun _ => ⟨fun h i j h1 h2 => ?_, fun h x hx => ?_⟩
  · have := h _ (mem_prs.2 ⟨h1, h2⟩)
    unfold prOk at this
    rwa [Bool.and_eq_true, Bool.not_eq_true', decide_eq_false_iff_not, decide_eq_true_iff] at this
  · obtain ⟨h1, h2⟩ := mem_prs.1 hx
    unfold prOk
    rw [Bool.and_eq_true, Bool.not_eq_true', decide_eq_false_iff_not, decide_eq_true_iff]
    exact h _ _ h1 h2
theorem cor_app {m : List V2} {p : V2} {i : Nat} (h : i < m.length) : cor (m ++ [p]) i = cor m i := by
  unfold cor
  rw [List.length_append, List.length_singleton, Nat.mod_eq_of_lt h, Nat.mod_eq_of_lt (show i < m.length + 1 by omega), List.getD_eq_getElem?_getD, List.getD_eq_getElem?_getD, List.getElem?_append_left h]
theorem cor_app1 (m : List V2) (p : V2) : cor (m ++ [p]) m.length = p := by
  unfold cor
  rw [List.length_append, List.length_singleton, Nat.mod_eq_of_lt (by omega), List.getD_eq_getElem?_getD, List.getElem?_append_right (Nat.le_refl _)]
  simp
theorem cor_app2 {m : List V2} (p : V2) (h : 0 < m.length) : cor (m ++ [p]) (m.length + 1) = cor m 0 := by
  rw [← cor_app (p := p) h]
  unfold cor
  rw [List.length_append, List.length_singleton, Nat.mod_self, Nat.zero_mod]
theorem cor_wrap {m : List V2} : cor m m.length = cor m 0 := by unfold cor; rw [Nat.mod_self, Nat.zero_mod]
theorem want_in {n i j : Nat} (h : j + 1 < n) : wantF (n + 1) i j = wantF n i j := by
  unfold wantF
  by_cases h1 : j = i + 1
  · rw [if_pos (.inl h1), if_pos (.inl h1)]
  · rw [if_neg (by omega), if_neg (by omega)]
theorem want_one {n i j : Nat} (h : j = i + 1 ∨ (i = 0 ∧ j + 1 = n)) : wantF n i j = 1 := if_pos h
theorem want_none {n i j : Nat} (h : ¬ (j = i + 1 ∨ (i = 0 ∧ j + 1 = n))) : wantF n i j = 0 := if_neg h
theorem simB_put {m : List V2} {t : Rat} (hm : 3 ≤ m.length) (h0 : 0 < t) (h1 : t < 1) : simB (m ++ [atP (cor m (m.length - 1)) (cor m 0) t]) = simB m := by
  obtain ⟨n, hn⟩ : ∃ n, n + 1 = m.length := ⟨m.length - 1, by omega⟩
  obtain ⟨a, ha⟩ : ∃ a, a = cor m (m.length - 1) := ⟨_, rfl⟩
  obtain ⟨b, hb⟩ : ∃ b, b = cor m 0 := ⟨_, rfl⟩
  obtain ⟨p, hp⟩ : ∃ p, p = atP a b t := ⟨_, rfl⟩
  have han : cor m n = a := by rw [ha, show m.length - 1 = n by omega]
  have hb1 : cor m (n + 1) = b := by rw [hn, cor_wrap, hb]
  rw [← ha, ← hb, ← hp]
  have c1 : ∀ i, i < n + 1 → cor (m ++ [p]) i = cor m i := fun i hi => cor_app (by omega)
  have c2 : cor (m ++ [p]) (n + 1) = p := by rw [hn]; exact cor_app1 m p
  have c3 : cor (m ++ [p]) (n + 1 + 1) = b := by rw [hn, hb]; exact cor_app2 p (by omega)
  have lo : ∀ q, onS a p q → onS a b q := fun q h => (on_split h0 h1).2 (.inl (by rw [← hp]; exact h))
  have hi : ∀ q, onS p b q → onS a b q := fun q h => (on_split h0 h1).2 (.inr (by rw [← hp]; exact h))
  rw [Bool.eq_iff_iff, simB_iff, simB_iff, List.length_append, List.length_singleton, ← hn]
  constructor
  · rintro ⟨_, h⟩
    refine ⟨by omega, fun i j hij hj => ?_⟩
    have hd := (h i j hij (by omega)).1
    rw [c1 i (by omega), c1 j hj] at hd
    refine ⟨hd, ?_⟩
    by_cases hjn : j = n
    · subst hjn
      obtain ⟨_, k1⟩ := h i j hij (by omega)
      obtain ⟨_, k2⟩ := h i (j + 1) (by omega) (by omega)
      rw [c1 i (by omega), c1 (i + 1) (by omega), c1 j (by omega), c2, han] at k1
      rw [c1 i (by omega), c1 (i + 1) (by omega), c2, c3] at k2
      rw [han, hb1]
      by_cases e1 : j = i + 1
      · rw [want_one (.inl e1)] at k1 ⊢
        rw [want_none (by omega)] at k2
        rw [kin_zero] at k2
        have hia : cor m (i + 1) = a := by rw [← e1, han]
        rw [hia] at k1 k2 ⊢
        refine kin_one.2 ⟨a, ⟨on_right _ _, on_left _ _⟩, fun q hq => ?_⟩
        rcases (on_split h0 h1).1 hq.2 with g | g
        · rw [← hp] at g; exact kin_at k1 ⟨on_right _ _, on_left _ _⟩ q ⟨hq.1, g⟩
        · rw [← hp] at g; exact absurd ⟨hq.1, g⟩ (k2 q)
      · by_cases e2 : i = 0
        · rw [want_none (by omega)] at k1
          rw [want_one (by omega)] at k2
          rw [want_one (.inr ⟨e2, rfl⟩)]
          rw [kin_zero] at k1
          have hib : cor m i = b := by rw [e2, hb]
          rw [hib] at k1 k2 ⊢
          refine kin_one.2 ⟨b, ⟨on_left _ _, on_right _ _⟩, fun q hq => ?_⟩
          rcases (on_split h0 h1).1 hq.2 with g | g
          · rw [← hp] at g; exact absurd ⟨hq.1, g⟩ (k1 q)
          · rw [← hp] at g; exact kin_at k2 ⟨on_left _ _, on_right _ _⟩ q ⟨hq.1, g⟩
        · rw [want_none (by omega)] at k1 k2 ⊢
          rw [kin_zero] at k1 k2 ⊢
          intro q hq
          rcases (on_split h0 h1).1 hq.2 with g | g
          · rw [← hp] at g; exact k1 q ⟨hq.1, g⟩
          · rw [← hp] at g; exact k2 q ⟨hq.1, g⟩
    · obtain ⟨_, k⟩ := h i j hij (by omega)
      rw [c1 i (by omega), c1 (i + 1) (by omega), c1 j (by omega), c1 (j + 1) (by omega), want_in (by omega)] at k
      exact k
  · rintro ⟨_, h⟩
    have hab : a ≠ b := fun e => (h 0 n (by omega) (by omega)).1 (by rw [han, ← hb, e])
    have pne := at_ne h0 h1 hab
    rw [← hp] at pne
    have nlo := not_lo h0 h1 hab
    have nhi := not_hi h0 h1 hab
    rw [← hp] at nlo nhi
    have last : ∀ i, i < n → kin (cor m i) (cor m (i + 1)) a b = wantF (n + 1) i n := fun i hi => by
      have := (h i n hi (by omega)).2
      rwa [han, hb1] at this
    refine ⟨by omega, fun i j hij hj => ?_⟩
    by_cases hjn : j < n
    · obtain ⟨k1, k2⟩ := h i j hij (by omega)
      rw [c1 i (by omega), c1 (i + 1) (by omega), c1 j (by omega), c1 (j + 1) (by omega), want_in (by omega)]
      exact ⟨k1, k2⟩
    · by_cases hin : i < n
      · have k := last i hin
        by_cases e0 : j = n
        · subst e0
          rw [c1 i (by omega), c1 (i + 1) (by omega), c1 j (by omega), c2, han]
          refine ⟨by rw [← han]; exact (h i j hin (by omega)).1, ?_⟩
          by_cases e1 : j = i + 1
          · rw [want_one (.inl e1)] at k ⊢
            have hia : cor m (i + 1) = a := by rw [← e1, han]
            rw [hia] at k ⊢
            exact kin_one.2 ⟨a, ⟨on_right _ _, on_left _ _⟩, fun q hq => kin_at k ⟨on_right _ _, on_left _ _⟩ q ⟨hq.1, lo q hq.2⟩⟩
          · rw [want_none (show ¬ (j = i + 1 ∨ (i = 0 ∧ j + 1 = j + 1 + 1)) by omega)]
            rw [kin_zero]
            intro q hq
            by_cases e2 : i = 0
            · rw [want_one (.inr ⟨e2, rfl⟩)] at k
              have hib : cor m i = b := by rw [e2, hb]
              rw [hib] at k hq
              have := kin_at k ⟨on_left _ _, on_right _ _⟩ q ⟨hq.1, lo q hq.2⟩
              exact nlo (this ▸ hq.2)
            · rw [want_none (by omega), kin_zero] at k
              exact k q ⟨hq.1, lo q hq.2⟩
        · obtain rfl : j = n + 1 := by omega
          rw [c1 i (by omega), c1 (i + 1) (by omega), c2, c3]
          refine ⟨fun e => ?_, ?_⟩
          · have hon : Bo (cor m i) (cor m (i + 1)) a b p := ⟨e ▸ on_left _ _, lo p (on_right _ _)⟩
            by_cases e1 : n = i + 1
            · rw [want_one (.inl e1)] at k
              have hia : cor m (i + 1) = a := by rw [← e1, han]
              rw [hia] at k hon
              exact pne.1 (kin_at k ⟨on_right _ _, on_left _ _⟩ p hon)
            · by_cases e2 : i = 0
              · rw [want_one (.inr ⟨e2, rfl⟩)] at k
                have hib : cor m i = b := by rw [e2, hb]
                exact pne.2 (by rw [← e, hib])
              · rw [want_none (by omega), kin_zero] at k
                exact k p hon
          · by_cases e2 : i = 0
            · rw [want_one (.inr ⟨e2, rfl⟩)] at k ⊢
              have hib : cor m i = b := by rw [e2, hb]
              rw [hib] at k ⊢
              exact kin_one.2 ⟨b, ⟨on_left _ _, on_right _ _⟩, fun q hq => kin_at k ⟨on_left _ _, on_right _ _⟩ q ⟨hq.1, hi q hq.2⟩⟩
            · rw [want_none (show ¬ (n + 1 = i + 1 ∨ (i = 0 ∧ n + 1 + 1 = n + 1 + 1)) by omega), kin_zero]
              intro q hq
              by_cases e1 : n = i + 1
              · rw [want_one (.inl e1)] at k
                have hia : cor m (i + 1) = a := by rw [← e1, han]
                rw [hia] at k hq
                have := kin_at k ⟨on_right _ _, on_left _ _⟩ q ⟨hq.1, hi q hq.2⟩
                exact nhi (this ▸ hq.2)
              · rw [want_none (by omega), kin_zero] at k
                exact k q ⟨hq.1, hi q hq.2⟩
      · obtain rfl : i = n := by omega
        obtain rfl : j = i + 1 := by omega
        rw [c1 i (by omega), c2, c3, han, want_one (.inl rfl)]
        refine ⟨fun e => pne.1 e.symm, kin_one.2 ⟨p, ⟨on_right _ _, on_left _ _⟩, fun q hq => ?_⟩⟩
        rw [hp] at hq ⊢
        exact on_mid h0 h1 hab hq.1 hq.2
theorem simB_twice {l : List V2} {i j : Nat} (hi : i < j) (hj : j < l.length) (h : cor l i = cor l j) : simB l = false := by
  cases e : simB l with
  | false => rfl
  | true => exact absurd h ((simB_iff.1 e).2 i j hi hj).1
end Num
