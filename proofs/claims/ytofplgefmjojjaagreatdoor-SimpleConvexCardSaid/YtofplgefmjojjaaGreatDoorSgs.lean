/- A simple polygon has an area, of the sign of some corner's turn; areas turned about and moved. Plain facts. -/
import Derived.Test.YtofplgefmjojjaaGreatDoorSgr
namespace Num.Sw
open Go Go.Proofs
theorem slot {t : Nat → Rat} {u : Rat} : ∀ {n : Nat}, (∀ a b, a < b → b < n → t a < t b) → (∀ k, k < n → u ≠ t k) → ∃ p, p ≤ n ∧ (∀ k, k < p → t k < u) ∧ ∀ k, p ≤ k → k < n → u < t k := by
  intro n
  induction n with
  | zero => intro _ _; exact ⟨0, Nat.le_refl _, fun k hk => by omega, fun k _ hk => by omega⟩
  | succ n ih =>
    intro hm hu
    obtain ⟨p, hp, h1, h2⟩ := ih (fun a b hab hb => hm a b hab (by omega)) fun k hk => hu k (by omega)
    by_cases g : p = n ∧ t n < u
    · obtain ⟨rfl, g2⟩ := g
      refine ⟨p + 1, by omega, fun k hk => ?_, fun k h1 h2 => by omega⟩
      by_cases e : k = p
      · subst e; exact g2
      · exact h1 k (by omega)
    · refine ⟨p, by omega, h1, fun k hk hk2 => ?_⟩
      by_cases e : k = n
      · subst e
        by_cases e2 : p = k
        · have a := hu k (by omega)
          have b : ¬ t k < u := fun hh => g ⟨e2, hh⟩
          grind
        · have a := h2 p (Nat.le_refl _) (by omega)
          have b := hm p k (by omega) (by omega)
          grind
      · exact h2 k hk (by omega)
theorem sort_ex (x : Nat → Rat) : ∀ n, (∀ i j, i < n → j < n → i ≠ j → x i ≠ x j) → ∃ rk : Nat → Nat, ∃ t : Nat → Rat, (∀ i, i < n → rk i < n) ∧ (∀ i, i < n → t (rk i) = x i) ∧ (∀ a b, a < b → b < n → t a < t b) ∧ ∀ k, k < n → ∃ i, i < n ∧ rk i = k := by
  intro n
  induction n with
  | zero => intro _; exact ⟨id, x, fun _ h => by omega, fun _ h => by omega, fun _ _ _ h => by omega, fun _ h => by omega⟩
  | succ n ih =>
    intro hd
    obtain ⟨rk, t, r1, r2, r3, r4⟩ := ih fun i j hi hj => hd i j (by omega) (by omega)
    obtain ⟨p, hp, p1, p2⟩ := slot (t := t) (u := x n) (n := n) r3 fun k hk => by
      obtain ⟨i, hi, e⟩ := r4 k hk
      rw [← e, r2 i hi]; exact hd n i (by omega) (by omega) (by omega)
    refine ⟨fun i => if i = n then p else if rk i < p then rk i else rk i + 1, fun k => if k < p then t k else if k = p then x n else t (k - 1), fun i hi => ?_, fun i hi => ?_, fun a b hab hb => ?_, fun k hk => ?_⟩
    · by_cases e : i = n
      · simp only [e, if_true]; omega
      · have := r1 i (by omega)
        simp only [e, if_false]; split <;> omega
    · by_cases e : i = n
      · simp only [e, if_true]; simp
      · have q := r2 i (by omega)
        simp only [e, if_false]
        by_cases g : rk i < p
        · rw [if_pos g, if_pos g]; exact q
        · rw [if_neg g, if_neg (by omega), if_neg (by omega)]; exact q
    · by_cases g1 : a < p
      · by_cases g2 : b < p
        · simp only [g1, g2, if_true]; exact r3 a b hab (by omega)
        · by_cases g3 : b = p
          · simp only [g1, g2, g3, if_true, if_false, Nat.lt_irrefl]; exact p1 a g1
          · simp only [g1, g2, g3, if_true, if_false]; exact r3 a (b - 1) (by omega) (by omega)
      · have g2 : ¬ b < p := by omega
        have g3 : ¬ b = p := by omega
        by_cases g4 : a = p
        · simp only [g2, g3, g4, if_true, if_false, Nat.lt_irrefl]; exact p2 (b - 1) (by omega) (by omega)
        · simp only [g1, g2, g3, g4, if_false]; exact r3 (a - 1) (b - 1) (by omega) (by omega)
    · by_cases e : k = p
      · exact ⟨n, by omega, by simp [e]⟩
      · by_cases g : k < p
        · obtain ⟨i, hi, q⟩ := r4 k (by omega)
          exact ⟨i, by omega, by simp only [show ¬ i = n by omega, if_false, q, g, if_true]⟩
        · obtain ⟨i, hi, q⟩ := r4 (k - 1) (by omega)
          exact ⟨i, by omega, by simp only [show ¬ i = n by omega, if_false, q, show ¬ k - 1 < p by omega]; omega⟩
theorem bnd (f : Nat → Rat) : ∀ n, ∃ u, ∀ i, i < n → f i < u := by
  intro n
  induction n with
  | zero => exact ⟨0, fun i hi => by omega⟩
  | succ n ih =>
    obtain ⟨u, hu⟩ := ih
    by_cases g : u ≤ f n
    · refine ⟨f n + 1, fun i hi => ?_⟩
      by_cases e : i = n
      · subst e; grind
      · have := hu i (by omega); grind
    · refine ⟨u, fun i hi => ?_⟩
      by_cases e : i = n
      · subst e; grind
      · exact hu i (by omega)
theorem shear_ex {n : Nat} {c : Nat → V2} (ne : ∀ i j, i < n → j < n → i ≠ j → c i ≠ c j) : ∃ e : Rat, ∀ i j, i < n → j < n → i ≠ j → (c i).1 + e * (c i).2 ≠ (c j).1 + e * (c j).2 := by
 obtain ⟨u, hu⟩ := bnd (fun k => ((c (k % n)).1 - (c (k / n)).1) / ((c (k / n)).2 - (c (k % n)).2)) (n * n)
 refine ⟨u, fun i j hi hj hij e => ?_⟩
 have hn : 0 < n := by omega
 have b := hu (i * n + j) (by
  have := Nat.mul_le_mul_right n (show i + 1 ≤ n by omega)
  rw [Nat.succ_mul] at this; omega)
 have e1 : (i * n + j) % n = j := by rw [Nat.add_comm, Nat.add_mul_mod_self_right, Nat.mod_eq_of_lt hj]
 have e2 : (i * n + j) / n = i := by rw [Nat.add_comm, Nat.add_mul_div_right _ _ hn, Nat.div_eq_of_lt hj, Nat.zero_add]
 simp only [e1, e2] at b
 by_cases g : (c i).2 = (c j).2
 ·exact ne i j hi hj hij (Prod.ext (by rw [g] at e; grind) g)
 ·have hne : (c i).2 - (c j).2 ≠ 0 := by grind
  have q := Rat.div_mul_cancel (a := (c j).1 - (c i).1) hne
  have q2 : u * ((c i).2 - (c j).2) = (c j).1 - (c i).1 := by grind
  have : u = ((c j).1 - (c i).1) / ((c i).2 - (c j).2) := by
   have := mz (d := (c i).2 - (c j).2) (x := u - ((c j).1 - (c i).1) / ((c i).2 - (c j).2)) (by grind) hne
   grind
  rw [← this] at b
  exact absurd b (Rat.lt_irrefl)
def nxI (n i : Nat) : Nat := if i + 1 < n then i + 1 else 0
def pvI (n i : Nat) : Nat := if i = 0 then n - 1 else i - 1
theorem c_nx {n i : Nat} {c : Nat → V2} (hp : Per n c) (hi : i < n) : c (nxI n i) = c (i + 1) := by
 unfold nxI
 by_cases g : i + 1 < n
 ·rw [if_pos g]
 ·rw [if_neg g, ← hp (i + 1), show i + 1 = n by omega, Nat.mod_self]
theorem c_pv {n i : Nat} {c : Nat → V2} (hp : Per n c) (hi : i < n) : c (pvI n i) = c (i + n - 1) := by
 unfold pvI
 by_cases g : i = 0
 ·rw [if_pos g]; subst g; congr 1; omega
 ·rw [if_neg g, ← hp (i + n - 1), show i + n - 1 = (i - 1) + n by omega, Nat.add_mod_right, hp]
theorem sim_pge {n : Nat} {c : Nat → V2} (hp : Per n c) (hs : Sim n c) {e : Rat} (he : ∀ i j, i < n → j < n → i ≠ j → (c i).1 + e * (c i).2 ≠ (c j).1 + e * (c j).2) : ∃ (rk : Nat → Nat) (t : Nat → Rat), Pg n (nxI n) (pvI n) rk (fun i => (c i).1 + e * (c i).2) (fun i => (c i).2) t := by
 obtain ⟨n3, hs⟩ := hs
 obtain ⟨rk, t, r1, r2, r3, r4⟩ := sort_ex (fun i => (c i).1 + e * (c i).2) n he
 have nl : ∀ i, i < n → nxI n i < n := fun i hi => by unfold nxI; split <;> omega
 refine ⟨rk, t, ⟨n3, nl, fun i hi => by unfold pvI; split <;> omega, fun i hi => by unfold nxI pvI; split <;> split <;> omega, fun i hi => by unfold nxI pvI; split <;> split <;> omega, fun i hi => by unfold nxI; rw [if_pos hi], by unfold nxI; rw [if_neg (by omega)], fun i hi => by unfold nxI; split <;> omega, he, r1, r2, r3, r4, ?_⟩⟩
 intro i j hi hj hij m bi bj ey
 have hx : ∀ i, i < n → (c (nxI n i)).1 + e * (c (nxI n i)).2 - ((c i).1 + e * (c i).2) ≠ 0 := fun i hi q => he _ _ (nl i hi) hi (by unfold nxI; split <;> omega) (by grind)
 have par : ∀ i, i < n → btw ((c i).1 + e * (c i).2) ((c (nxI n i)).1 + e * (c (nxI n i)).2) m → ∃ s, 0 ≤ s ∧ s ≤ 1 ∧ s * ((c (nxI n i)).1 + e * (c (nxI n i)).2 - ((c i).1 + e * (c i).2)) = m - ((c i).1 + e * (c i).2) := fun i hi b => by
  obtain ⟨d, hd⟩ : ∃ d, d = (c (nxI n i)).1 + e * (c (nxI n i)).2 - ((c i).1 + e * (c i).2) := ⟨_, rfl⟩
  have hd0 : d ≠ 0 := by rw [hd]; exact hx i hi
  rw [← hd]
  obtain ⟨s, hsd⟩ : ∃ s, s = (m - ((c i).1 + e * (c i).2)) / d := ⟨_, rfl⟩
  have q : s * d = m - ((c i).1 + e * (c i).2) := by rw [hsd]; exact Rat.div_mul_cancel hd0
  refine ⟨s, Rat.not_lt.1 fun g => ?_, Rat.not_lt.1 fun g => ?_, q⟩
  ·unfold btw at b
   rcases b with b | b
   ·have := Rat.mul_pos (show 0 < d by grind) (show 0 < -s by grind); grind
   ·have := Rat.mul_pos (show 0 < -d by grind) (show 0 < -s by grind); grind
  ·unfold btw at b
   rcases b with b | b
   ·have := Rat.mul_pos (show 0 < d by grind) (show 0 < s - 1 by grind); grind
   ·have := Rat.mul_pos (show 0 < -d by grind) (show 0 < s - 1 by grind); grind
 obtain ⟨s, s0, s1, sq⟩ := par i hi bi
 obtain ⟨u, u0, u1, uq⟩ := par j hj bj
 have yy : ∀ i s, i < n → s * ((c (nxI n i)).1 + e * (c (nxI n i)).2 - ((c i).1 + e * (c i).2)) = m - ((c i).1 + e * (c i).2) → (c i).2 + ((c (nxI n i)).2 - (c i).2) / ((c (nxI n i)).1 + e * (c (nxI n i)).2 - ((c i).1 + e * (c i).2)) * (m - ((c i).1 + e * (c i).2)) = (c i).2 + ((c (nxI n i)).2 - (c i).2) * s := fun i s hi q => by
  obtain ⟨w, hw⟩ : ∃ w, w = ((c (nxI n i)).2 - (c i).2) / ((c (nxI n i)).1 + e * (c (nxI n i)).2 - ((c i).1 + e * (c i).2)) := ⟨_, rfl⟩
  have q2 : w * ((c (nxI n i)).1 + e * (c (nxI n i)).2 - ((c i).1 + e * (c i).2)) = (c (nxI n i)).2 - (c i).2 := by rw [hw]; exact Rat.div_mul_cancel (hx i hi)
  rw [← hw, ← q, ← q2]; grind
 rw [yy i s hi sq, yy j u hj uq] at ey
 have pq : atP (c i) (c (nxI n i)) s = atP (c j) (c (nxI n j)) u := Prod.ext (by
  show (c i).1 + ((c (nxI n i)).1 - (c i).1) * s = (c j).1 + ((c (nxI n j)).1 - (c j).1) * u
  have a1 : (c i).1 + ((c (nxI n i)).1 - (c i).1) * s = m - e * ((c i).2 + ((c (nxI n i)).2 - (c i).2) * s) := by grind
  have a2 : (c j).1 + ((c (nxI n j)).1 - (c j).1) * u = m - e * ((c j).2 + ((c (nxI n j)).2 - (c j).2) * u) := by grind
  rw [a1, a2, ey]) ey
 have bo : Bo (c i) (c (i + 1)) (c j) (c (j + 1)) (atP (c i) (c (i + 1)) s) := by
  rw [c_nx hp hi, c_nx hp hj] at pq
  exact ⟨on_par.2 ⟨s, s0, s1, rfl⟩, on_par.2 ⟨u, u0, u1, pq⟩⟩
 have k := (hs i j (by rw [Nat.mod_eq_of_lt hi, Nat.mod_eq_of_lt hj]; exact hij)).2
 have mx : (atP (c i) (c (i + 1)) s).1 + e * (atP (c i) (c (i + 1)) s).2 = m := by
  rw [c_nx hp hi] at sq
  show (c i).1 + ((c (i + 1)).1 - (c i).1) * s + e * ((c i).2 + ((c (i + 1)).2 - (c i).2) * s) = m
  grind
 by_cases ad : adj n i j
 ·rw [if_pos ad] at k
  obtain ⟨p, _, hu⟩ := kin_one.1 k
  have z := hu _ bo
  rcases ad with ad | ad
  ·refine .inl ?_
   have hj2 : j = nxI n i := by
    rw [Nat.mod_eq_of_lt hj] at ad
    unfold nxI
    by_cases g : i + 1 < n
    ·rw [if_pos g, ← ad, Nat.mod_eq_of_lt g]
    ·rw [if_neg g, ← ad, show i + 1 = n by omega, Nat.mod_self]
   refine ⟨?_, hj2⟩
   have cj : c j = c (i + 1) := by rw [hj2, c_nx hp hi]
   have w := hu (c (i + 1)) ⟨on_right _ _, by rw [← cj]; exact on_left _ _⟩
   rw [← mx, z, ← w, c_nx hp hi]
  ·refine .inr ?_
   have hi2 : i = nxI n j := by
    rw [Nat.mod_eq_of_lt hi] at ad
    unfold nxI
    by_cases g : j + 1 < n
    ·rw [if_pos g, ← ad, Nat.mod_eq_of_lt g]
    ·rw [if_neg g, ← ad, show j + 1 = n by omega, Nat.mod_self]
   refine ⟨?_, hi2⟩
   have ci : c i = c (j + 1) := by rw [hi2, c_nx hp hj]
   have w := hu (c i) ⟨on_left _ _, by rw [ci]; exact on_right _ _⟩
   rw [← mx, z, ← w]
 ·rw [if_neg ad] at k
  exact absurd bo (kin_zero.1 k _)
theorem sim_sh {n : Nat} {c : Nat → V2} (hs : Sim n c) : ∃ e : Rat, ∀ i j, i < n → j < n → i ≠ j → (c i).1 + e * (c i).2 ≠ (c j).1 + e * (c j).2 :=
 shear_ex fun i j hi hj hij => (hs.2 i j (by rw [Nat.mod_eq_of_lt hi, Nat.mod_eq_of_lt hj]; exact hij)).1
end Num.Sw
namespace Num
open Go Go.Proofs
end Num
