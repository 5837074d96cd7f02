/- Polygons of distinct abscissae, swept: which way an edge goes, and how many edges stand above it, in twos, are bound together all along the polygon. Plain facts. -/
import Derived.Test.YtofplgefmjojjaaGreatDoorSga
namespace Num.Sw
open Go Go.Proofs
def xs (f : Nat → Bool) : Nat → Bool
 | 0 => false
 | n + 1 => xs f n ^^ f n
theorem xs_congr {f g : Nat → Bool} {n : Nat} (h : ∀ j, j < n → f j = g j) : xs f n = xs g n := by
 induction n with
 | zero => rfl
 | succ n ih => unfold xs; rw [ih fun j hj => h j (by omega), h n (by omega)]
theorem xs_xor (f g : Nat → Bool) (n : Nat) : xs (fun j => f j ^^ g j) n = (xs f n ^^ xs g n) := by
 induction n with
 | zero => rfl
 | succ n ih => unfold xs; rw [ih]; cases xs f n <;> cases xs g n <;> cases f n <;> cases g n <;> rfl
theorem xs_none {f : Nat → Bool} {n : Nat} (h : ∀ j, j < n → f j = false) : xs f n = false := by
 induction n with
 | zero => rfl
 | succ n ih => unfold xs; rw [ih fun j hj => h j (by omega), h n (by omega)]; rfl
theorem xs_one {f : Nat → Bool} {n u : Nat} (hu : u < n) (h : ∀ j, j < n → j ≠ u → f j = false) : xs f n = f u := by
  induction n with
  | zero => omega
  | succ n ih =>
    unfold xs
    by_cases e : u = n
    · subst e; rw [xs_none fun j hj => h j (by omega) (by omega)]; simp
    · rw [ih (by omega) fun j hj => h j (by omega), h n (by omega) (by omega)]; simp
theorem xs_two {f : Nat → Bool} {n u v : Nat} (hu : u < n) (hv : v < n) (huv : u ≠ v) (h : ∀ j, j < n → j ≠ u → j ≠ v → f j = false) : xs f n = (f u ^^ f v) := by
 have e : xs f n = xs (fun j => (decide (j = u) && f j) ^^ (!decide (j = u) && f j)) n := xs_congr fun j _ => by by_cases e : j = u <;> simp [e]
 rw [e, xs_xor, xs_one (u := u) hu fun j _ hj => by simp [hj], xs_one (u := v) hv fun j hj hjv => by
  by_cases e : j = u
  ·simp [e]
  ·simp [h j hj e hjv]]
 simp [Ne.symm huv]
theorem aff_meet {a s p b r q m1 m2 : Rat} (h1 : a + s * (m1 - p) < b + r * (m1 - q)) (h2 : ¬ a + s * (m2 - p) < b + r * (m2 - q)) :
  ∃ u, 0 ≤ u ∧ u ≤ 1 ∧ a + s * (m1 + (m2 - m1) * u - p) = b + r * (m1 + (m2 - m1) * u - q) := by
 obtain ⟨D1, e1⟩ : ∃ D, D = b + r * (m1 - q) - (a + s * (m1 - p)) := ⟨_, rfl⟩
 obtain ⟨D2, e2⟩ : ∃ D, D = a + s * (m2 - p) - (b + r * (m2 - q)) := ⟨_, rfl⟩
 have p1 : 0 < D1 := by grind
 have p2 : 0 ≤ D2 := by grind
 have hne : D1 + D2 ≠ 0 := by grind
 obtain ⟨u, hu⟩ : ∃ u, u = D1 / (D1 + D2) := ⟨_, rfl⟩
 have e : u * (D1 + D2) = D1 := by rw [hu]; exact Rat.div_mul_cancel hne
 refine ⟨u, Rat.not_lt.1 fun h => ?_, Rat.not_lt.1 fun h => ?_, ?_⟩
 ·have := Rat.mul_pos (show 0 < D1 + D2 by grind) (show 0 < -u by grind); grind
 ·have := Rat.mul_pos (show 0 < D1 + D2 by grind) (show 0 < u - 1 by grind); grind
 ·grind
structure Pg (n : Nat) (nx pv rk : Nat → Nat) (x y t : Nat → Rat) : Prop where
 n3 : 3 ≤ n
 nxl : ∀ i, i < n → nx i < n
 pvl : ∀ i, i < n → pv i < n
 nxpv : ∀ i, i < n → nx (pv i) = i
 pvnx : ∀ i, i < n → pv (nx i) = i
 nxs : ∀ i, i + 1 < n → nx i = i + 1
 nxw : nx (n - 1) = 0
 ne1 : ∀ i, i < n → nx i ≠ i
 dist : ∀ i j, i < n → j < n → i ≠ j → x i ≠ x j
 rkl : ∀ i, i < n → rk i < n
 trk : ∀ i, i < n → t (rk i) = x i
 tm : ∀ a b, a < b → b < n → t a < t b
 sur : ∀ k, k < n → ∃ i, i < n ∧ rk i = k
 cross : ∀ i j, i < n → j < n → i ≠ j → ∀ m, btw (x i) (x (nx i)) m → btw (x j) (x (nx j)) m → y i + (y (nx i) - y i) / (x (nx i) - x i) * (m - x i) = y j + (y (nx j) - y j) / (x (nx j) - x j) * (m - x j) → (m = x (nx i) ∧ j = nx i) ∨ (m = x i ∧ i = nx j)
section
variable {n : Nat} {nx pv rk : Nat → Nat} {x y t : Nat → Rat}
def Yh (nx : Nat → Nat) (x y : Nat → Rat) (i : Nat) (m : Rat) : Rat := y i + (y (nx i) - y i) / (x (nx i) - x i) * (m - x i)
def lft (rk : Nat → Nat) (i k : Nat) : Bool := decide (rk i ≤ k)
def spa (nx rk : Nat → Nat) (i k : Nat) : Bool := lft rk i k ^^ lft rk (nx i) k
def mdl (t : Nat → Rat) (k : Nat) : Rat := (t k + t (k + 1)) / 2
def abv (n : Nat) (nx rk : Nat → Nat) (x y t : Nat → Rat) (i k : Nat) : Bool := xs (fun j => spa nx rk j k && decide (Yh nx x y i (mdl t k) < Yh nx x y j (mdl t k))) n
def psi (n : Nat) (nx rk : Nat → Nat) (x y t : Nat → Rat) (i k : Nat) : Bool := lft rk i k ^^ abv n nx rk x y t i k
theorem y_lo (i : Nat) : Yh nx x y i (x i) = y i := by unfold Yh; grind
theorem spa_iff {i k : Nat} : spa nx rk i k = true ↔ (rk i ≤ k ∧ k < rk (nx i)) ∨ (rk (nx i) ≤ k ∧ k < rk i) := by
 unfold spa lft
 by_cases h1 : rk i ≤ k <;> by_cases h2 : rk (nx i) ≤ k <;> simp [h1, h2] <;> omega
namespace Pg
variable (h : Pg n nx pv rk x y t)
include h
theorem tle {a b : Nat} (hab : a ≤ b) (hb : b < n) : t a ≤ t b := by
 rcases Nat.lt_or_eq_of_le hab with g | g
 ·have := h.tm a b g hb; grind
 ·subst g; grind
theorem rinj {i j : Nat} (hi : i < n) (hj : j < n) (e : rk i = rk j) : i = j := by
 rcases Nat.decEq i j with g | g
 ·exact absurd (by rw [← h.trk i hi, ← h.trk j hj, e]) (h.dist i j hi hj g)
 ·exact g
theorem mid_in {k : Nat} (hk : k + 1 < n) : t k < mdl t k ∧ mdl t k < t (k + 1) := by
 have := h.tm k (k + 1) (by omega) hk
 unfold mdl
 constructor <;> grind
theorem no_v {i k : Nat} (hi : i < n) (hk : k + 1 < n) (h1 : t k < x i) (h2 : x i < t (k + 1)) : False := by
 rw [← h.trk i hi] at h1 h2
 rcases Nat.lt_or_ge k (rk i) with g | g
 ·have := h.tle (a := k + 1) (b := rk i) (by omega) (h.rkl i hi); grind
 ·have := h.tle (a := rk i) (b := k) g (by omega); grind
theorem spa_in {i k : Nat} {m : Rat} (hi : i < n) (hk : k + 1 < n) (hs : spa nx rk i k = true) (h1 : t k ≤ m) (h2 : m ≤ t (k + 1)) : btw (x i) (x (nx i)) m := by
 have hn := h.nxl i hi
 unfold spa lft at hs
 unfold btw
 rw [← h.trk i hi, ← h.trk _ hn]
 rcases Nat.lt_or_ge k (rk i) with g | g
 ·have g2 : rk (nx i) ≤ k := by
   rcases Nat.lt_or_ge k (rk (nx i)) with e | e
   ·simp [show ¬ rk i ≤ k by omega, show ¬ rk (nx i) ≤ k by omega] at hs
   ·exact e
  have a1 := h.tle (a := k + 1) (b := rk i) (by omega) (h.rkl i hi)
  have a2 := h.tle (a := rk (nx i)) (b := k) g2 (by omega)
  exact .inr ⟨by grind, by grind⟩
 ·have g2 : k < rk (nx i) := by
   rcases Nat.lt_or_ge k (rk (nx i)) with e | e
   ·exact e
   ·simp [show rk i ≤ k by omega, show rk (nx i) ≤ k by omega] at hs
  have a1 := h.tle (a := k + 1) (b := rk (nx i)) (by omega) (h.rkl _ hn)
  have a2 := h.tle (a := rk i) (b := k) g (by omega)
  exact .inl ⟨by grind, by grind⟩
theorem y_hi {i : Nat} (hi : i < n) : Yh nx x y i (x (nx i)) = y (nx i) := by
 have hne : x (nx i) - x i ≠ 0 := fun e => h.dist _ _ (h.nxl i hi) hi (h.ne1 i hi) (by grind)
 unfold Yh
 rw [Rat.div_mul_cancel hne]; grind
theorem y_pv {v : Nat} (hv : v < n) : Yh nx x y (pv v) (x v) = y v := by
 have := h.y_hi (h.pvl v hv)
 rwa [h.nxpv v hv] at this
theorem no_eq {i j k : Nat} {m : Rat} (hi : i < n) (hj : j < n) (hij : i ≠ j) (hk : k + 1 < n) (si : spa nx rk i k = true) (sj : spa nx rk j k = true) (h1 : t k < m) (h2 : m < t (k + 1)) : Yh nx x y i m ≠ Yh nx x y j m := by
 intro e
 rcases h.cross i j hi hj hij m (h.spa_in hi hk si (by grind) (by grind)) (h.spa_in hj hk sj (by grind) (by grind)) e with ⟨e1, _⟩ | ⟨e1, _⟩
 ·exact h.no_v (h.nxl i hi) hk (by rw [← e1]; exact h1) (by rw [← e1]; exact h2)
 ·exact h.no_v hi hk (by rw [← e1]; exact h1) (by rw [← e1]; exact h2)
theorem keep {i j k v : Nat} (hi : i < n) (hj : j < n) (hij : i ≠ j) (hk : k + 1 < n) (hv : v < n) (hkv : rk v = k ∨ rk v = k + 1) (si : spa nx rk i k = true) (sj : spa nx rk j k = true) (g1 : ¬ (v = nx i ∧ j = nx i)) (g2 : ¬ (v = i ∧ i = nx j)) :
  decide (Yh nx x y i (mdl t k) < Yh nx x y j (mdl t k)) = decide (Yh nx x y i (x v) < Yh nx x y j (x v)) := by
 have hm := h.mid_in hk
 have xv : x v = t k ∨ x v = t (k + 1) := by rw [← h.trk v hv]; rcases hkv with e | e <;> rw [e] <;> simp
 have key : ∀ m, t k ≤ m → m ≤ t (k + 1) → (m = x v ∨ (t k < m ∧ m < t (k + 1))) → Yh nx x y i m ≠ Yh nx x y j m := fun m a b c => by
  rcases c with c | c
  ·intro e
   rcases h.cross i j hi hj hij m (h.spa_in hi hk si a b) (h.spa_in hj hk sj a b) e with ⟨e1, e2⟩ | ⟨e1, e2⟩
   ·exact g1 ⟨Decidable.byContradiction fun hne => h.dist v (nx i) hv (h.nxl i hi) hne (by rw [← c, e1]), e2⟩
   ·exact g2 ⟨Decidable.byContradiction fun hne => h.dist v i hv hi hne (by rw [← c, e1]), e2⟩
  ·exact h.no_eq hi hj hij hk si sj c.1 c.2
 have go : ∀ a b : Rat, (∀ u, 0 ≤ u → u ≤ 1 → Yh nx x y i (a + (b - a) * u) ≠ Yh nx x y j (a + (b - a) * u)) → Yh nx x y i a < Yh nx x y j a → Yh nx x y i b < Yh nx x y j b := fun a b g l => Decidable.byContradiction fun hn => by
  obtain ⟨u, u0, u1, e⟩ := aff_meet (m1 := a) (m2 := b) l hn
  exact g u u0 u1 e
 have iff : Yh nx x y i (mdl t k) < Yh nx x y j (mdl t k) ↔ Yh nx x y i (x v) < Yh nx x y j (x v) := by
  have bet : ∀ u : Rat, 0 ≤ u → u ≤ 1 → (let m := mdl t k + (x v - mdl t k) * u; t k ≤ m ∧ m ≤ t (k + 1) ∧ (m = x v ∨ (t k < m ∧ m < t (k + 1)))) := fun u u0 u1 => by
   have mk : ∀ w : Rat, 0 < w → 0 ≤ w * (1 - u) := fun w hw => Rat.mul_nonneg (by grind) (by grind)
   by_cases e : u = 1
   ·subst e
    have : mdl t k + (x v - mdl t k) * 1 = x v := by grind
    simp only [this]
    rcases xv with g | g <;> rw [g] <;> refine ⟨by grind, by grind, .inl trivial⟩
   ·have hu : 0 < 1 - u := by grind
    rcases xv with g | g
    ·have p1 := Rat.mul_pos (show 0 < mdl t k - t k by grind) hu
     have p2 := Rat.mul_nonneg (show 0 ≤ mdl t k - t k by grind) u0
     simp only [g]
     refine ⟨by grind, by grind, .inr ⟨by grind, by grind⟩⟩
    ·have p1 := Rat.mul_pos (show 0 < t (k + 1) - mdl t k by grind) hu
     have p2 := Rat.mul_nonneg (show 0 ≤ t (k + 1) - mdl t k by grind) u0
     simp only [g]
     refine ⟨by grind, by grind, .inr ⟨by grind, by grind⟩⟩
  constructor
  ·exact go _ _ fun u u0 u1 => let ⟨a, b, c⟩ := bet u u0 u1; key _ a b c
  ·refine go _ _ fun u u0 u1 => ?_
   have e : x v + (mdl t k - x v) * u = mdl t k + (x v - mdl t k) * (1 - u) := by grind
   rw [e]
   exact let ⟨a, b, c⟩ := bet (1 - u) (by grind) (by grind); key _ a b c
 simp only [iff]
theorem pv_ne {v : Nat} (hv : v < n) : pv v ≠ v := fun e => h.ne1 (pv v) (h.pvl v hv) (by rw [h.nxpv v hv, e])
theorem lft_step {j v k : Nat} (hj : j < n) (hv : v < n) (hr : rk v = k + 1) : (lft rk j k ^^ lft rk j (k + 1)) = decide (j = v) := by
 unfold lft
 by_cases e : j = v
 ·subst e; simp [hr]
 ·have : rk j ≠ k + 1 := fun e2 => e (h.rinj hj hv (by omega))
  by_cases g : rk j ≤ k
  ·simp [g, e, show rk j ≤ k + 1 by omega]
  ·simp [g, e, show ¬ rk j ≤ k + 1 by omega]
theorem spa_step {j v k : Nat} (hj : j < n) (hv : v < n) (hr : rk v = k + 1) : (spa nx rk j k ^^ spa nx rk j (k + 1)) = (decide (j = v) ^^ decide (nx j = v)) := by
 rw [← h.lft_step hj hv hr, ← h.lft_step (h.nxl j hj) hv hr]
 unfold spa
 cases lft rk j k <;> cases lft rk (nx j) k <;> cases lft rk j (k + 1) <;> cases lft rk (nx j) (k + 1) <;> rfl
theorem step1 {i v k : Nat} (hi : i < n) (hv : v < n) (hk : k + 2 < n) (hr : rk v = k + 1) (s1 : spa nx rk i k = true) (s2 : spa nx rk i (k + 1) = true) : psi n nx rk x y t i k = psi n nx rk x y t i (k + 1) := by
 have r1 := spa_iff.1 s1
 have r2 := spa_iff.1 s2
 have hvi : v ≠ i := fun e => by subst e; omega
 have hvn : v ≠ nx i := fun e => by rw [e] at hr; omega
 have hpi : pv v ≠ i := fun e => hvn (by rw [← e, h.nxpv v hv])
 have hl : lft rk i k = lft rk i (k + 1) := by
  have := h.lft_step hi hv hr
  rw [decide_eq_false (Ne.symm hvi)] at this
  revert this; cases lft rk i k <;> cases lft rk i (k + 1) <;> simp
 have fj : ∀ j, j < n → j ≠ i → ∀ k', (k' = k ∨ k' = k + 1) → (spa nx rk j k' && decide (Yh nx x y i (mdl t k') < Yh nx x y j (mdl t k'))) = (spa nx rk j k' && decide (Yh nx x y i (x v) < Yh nx x y j (x v))) := fun j hj hne k' hk' => by
  cases hs : spa nx rk j k' with
  | false => rfl
  | true => rw [h.keep hi hj (Ne.symm hne) (by omega) hv (by omega) (by rcases hk' with e | e <;> subst e <;> assumption) hs (fun e => hvn e.1) (fun e => hvi e.1)]
 have hF : ∀ j, j < n → j ≠ i → ((spa nx rk j k && decide (Yh nx x y i (mdl t k) < Yh nx x y j (mdl t k))) ^^ (spa nx rk j (k + 1) && decide (Yh nx x y i (mdl t (k + 1)) < Yh nx x y j (mdl t (k + 1))))) = ((decide (j = v) ^^ decide (nx j = v)) && decide (Yh nx x y i (x v) < Yh nx x y j (x v))) := fun j hj hne => by
  rw [fj j hj hne k (.inl rfl), fj j hj hne (k + 1) (.inr rfl), ← h.spa_step hj hv hr]
  cases spa nx rk j k <;> cases spa nx rk j (k + 1) <;> cases decide (Yh nx x y i (x v) < Yh nx x y j (x v)) <;> rfl
 have hz : xs (fun j => (spa nx rk j k && decide (Yh nx x y i (mdl t k) < Yh nx x y j (mdl t k))) ^^ (spa nx rk j (k + 1) && decide (Yh nx x y i (mdl t (k + 1)) < Yh nx x y j (mdl t (k + 1))))) n = false := by
  rw [xs_two hv (h.pvl v hv) (Ne.symm (h.pv_ne hv)) fun j hj h1 h2 => ?_, hF v hv hvi, hF _ (h.pvl v hv) hpi, y_lo, h.y_pv hv, h.nxpv v hv, decide_eq_false (h.pv_ne hv), decide_eq_false (h.ne1 v hv)]
  ·simp
  ·by_cases e : j = i
   ·subst e; simp [Rat.lt_irrefl]
   ·rw [hF j hj e, decide_eq_false h1, decide_eq_false fun e2 => h2 (by rw [← e2, h.pvnx j hj])]; rfl
 rw [xs_xor] at hz
 unfold psi abv
 rw [hl]
 revert hz
 generalize xs _ n = a
 generalize xs _ n = b
 cases a <;> cases b <;> simp
theorem par_at {v e e' k : Nat} (hv : v < n) (he : (e = v ∧ e' = pv v) ∨ (e = pv v ∧ e' = v)) (hk : k + 1 < n) (hkv : rk v = k ∨ rk v = k + 1) (hs : spa nx rk e k = true) :
    abv n nx rk x y t e k = (xs (fun j => (!decide (j = v) && !decide (j = pv v)) && (spa nx rk j k && decide (y v < Yh nx x y j (x v)))) n ^^ (spa nx rk e' k && decide (Yh nx x y e (mdl t k) < Yh nx x y e' (mdl t k)))) := by
  have hp := h.pvl v hv
  have hne := h.pv_ne hv
  have hel : e < n := by rcases he with ⟨a, _⟩ | ⟨a, _⟩ <;> rw [a] <;> assumption
  have hel' : e' < n := by rcases he with ⟨_, a⟩ | ⟨_, a⟩ <;> rw [a] <;> assumption
  have hee : e' ≠ e := by rcases he with ⟨a, b⟩ | ⟨a, b⟩ <;> rw [a, b] <;> first | exact hne | exact Ne.symm hne
  have ye : Yh nx x y e (x v) = y v := by rcases he with ⟨a, _⟩ | ⟨a, _⟩ <;> rw [a] <;> first | exact y_lo v | exact h.y_pv hv
  have hvp : ∀ j, j ≠ e → j ≠ e' → j ≠ v ∧ j ≠ pv v := fun j h1 h2 => by rcases he with ⟨a, b⟩ | ⟨a, b⟩ <;> subst a <;> subst b <;> exact ⟨by assumption, by assumption⟩
  have key : xs (fun j => (spa nx rk j k && decide (Yh nx x y e (mdl t k) < Yh nx x y j (mdl t k))) ^^ ((!decide (j = v) && !decide (j = pv v)) && (spa nx rk j k && decide (y v < Yh nx x y j (x v))))) n = (spa nx rk e' k && decide (Yh nx x y e (mdl t k) < Yh nx x y e' (mdl t k))) := by
    rw [xs_one (u := e') hel' fun j hj hje => ?_]
    · have : (!decide (e' = v) && !decide (e' = pv v)) = false := by rcases he with ⟨_, b⟩ | ⟨_, b⟩ <;> rw [b] <;> simp
      rw [this]; simp
    · by_cases e1 : j = e
      · subst e1
        have : (!decide (j = v) && !decide (j = pv v)) = false := by rcases he with ⟨b, _⟩ | ⟨b, _⟩ <;> rw [b] <;> simp
        rw [this]; simp [Rat.lt_irrefl]
      · obtain ⟨a, b⟩ := hvp j e1 hje
        cases hsj : spa nx rk j k with
        | false => simp
        | true =>
          rw [h.keep hel hj (Ne.symm e1) hk hv hkv hs hsj (fun q => a (q.2.trans q.1.symm)) (fun q => b (by rw [q.1, q.2, h.pvnx j hj])), ye, decide_eq_false a, decide_eq_false b]
          simp
  rw [xs_xor] at key
  unfold abv
  rw [← key]
  generalize xs _ n = a
  generalize xs _ n = b
  cases a <;> cases b <;> rfl
theorem spa_other {v : Nat} (hv : v < n) {k : Nat} (hr : rk v = k + 1) : xs (fun j => (!decide (j = v) && !decide (j = pv v)) && (spa nx rk j k && decide (y v < Yh nx x y j (x v)))) n = xs (fun j => (!decide (j = v) && !decide (j = pv v)) && (spa nx rk j (k + 1) && decide (y v < Yh nx x y j (x v)))) n := xs_congr fun j hj => by
 by_cases e1 : j = v
 ·simp [e1]
 ·by_cases e2 : j = pv v
  ·simp [e2]
  ·have := h.spa_step hj hv hr
   rw [decide_eq_false e1, decide_eq_false fun q => e2 (by rw [← q, h.pvnx j hj])] at this
   have e : spa nx rk j k = spa nx rk j (k + 1) := by revert this; cases spa nx rk j k <;> cases spa nx rk j (k + 1) <;> simp
   rw [e]
theorem step2 {v : Nat} (hv : v < n) : ∃ k k', k + 1 < n ∧ k' + 1 < n ∧ spa nx rk (pv v) k = true ∧ spa nx rk v k' = true ∧ psi n nx rk x y t (pv v) k = psi n nx rk x y t v k' := by
 have hp := h.pvl v hv
 have hnl := h.nxl v hv
 have hne := h.pv_ne hv
 have hrv := h.rkl v hv
 have hrp := h.rkl _ hp
 have hrn := h.rkl _ hnl
 have d1 : rk (pv v) ≠ rk v := fun e => hne (h.rinj hp hv e)
 have d2 : rk (nx v) ≠ rk v := fun e => h.ne1 v hv (h.rinj hnl hv e)
 have np := h.nxpv v hv
 have two : ∀ k, k + 1 < n → (rk v = k ∨ rk v = k + 1) → spa nx rk (pv v) k = true → spa nx rk v k = true → lft rk (pv v) k = (! lft rk v k) → psi n nx rk x y t (pv v) k = psi n nx rk x y t v k := fun k hk hkv s1 s2 hl => by
  unfold psi
  rw [h.par_at hv (.inr ⟨rfl, rfl⟩) hk hkv s1, h.par_at hv (.inl ⟨rfl, rfl⟩) hk hkv s2, hl, s1, s2]
  have hm := h.mid_in hk
  have ne := h.no_eq hp hv hne hk s1 s2 hm.1 hm.2
  have : decide (Yh nx x y (pv v) (mdl t k) < Yh nx x y v (mdl t k)) = !decide (Yh nx x y v (mdl t k) < Yh nx x y (pv v) (mdl t k)) := by
   by_cases g : Yh nx x y (pv v) (mdl t k) < Yh nx x y v (mdl t k)
   ·rw [decide_eq_true g, decide_eq_false (by grind)]; rfl
   ·rw [decide_eq_false g, decide_eq_true (by grind)]; rfl
  rw [this]
  generalize xs _ n = a
  generalize decide (Yh nx x y v (mdl t k) < Yh nx x y (pv v) (mdl t k)) = b
  cases a <;> cases b <;> cases lft rk v k <;> rfl
 rcases Nat.lt_or_gt_of_ne d1 with g1 | g1
 ·obtain ⟨k, hk⟩ : ∃ k, rk v = k + 1 := ⟨rk v - 1, by omega⟩
  have s1 : spa nx rk (pv v) k = true := spa_iff.2 (.inl ⟨by omega, by rw [np]; omega⟩)
  have l1 : lft rk (pv v) k = true := decide_eq_true (by omega)
  have l2 : lft rk v k = false := decide_eq_false (by omega)
  rcases Nat.lt_or_gt_of_ne d2 with g2 | g2
  ·have s2 : spa nx rk v k = true := spa_iff.2 (.inr ⟨by omega, by omega⟩)
   exact ⟨k, k, by omega, by omega, s1, s2, two k (by omega) (.inr hk) s1 s2 (by rw [l1, l2]; rfl)⟩
  ·have s2 : spa nx rk v (k + 1) = true := spa_iff.2 (.inl ⟨by omega, by omega⟩)
   refine ⟨k, k + 1, by omega, by omega, s1, s2, ?_⟩
   unfold psi
   rw [h.par_at hv (.inr ⟨rfl, rfl⟩) (by omega) (.inr hk) s1, h.par_at hv (.inl ⟨rfl, rfl⟩) (by omega) (.inl hk) s2, h.spa_other hv hk, l1, show lft rk v (k + 1) = true from decide_eq_true (by omega),
    show spa nx rk v k = false by unfold spa; rw [l2, show lft rk (nx v) k = false from decide_eq_false (by omega)]; rfl, show spa nx rk (pv v) (k + 1) = false by unfold spa; rw [np, show lft rk (pv v) (k + 1) = true from decide_eq_true (by omega), show lft rk v (k + 1) = true from decide_eq_true (by omega)]; rfl]
   simp
 ·have s1 : spa nx rk (pv v) (rk v) = true := spa_iff.2 (.inr ⟨by rw [np]; omega, by omega⟩)
  have l1 : lft rk (pv v) (rk v) = false := decide_eq_false (by omega)
  have l2 : lft rk v (rk v) = true := decide_eq_true (by omega)
  rcases Nat.lt_or_gt_of_ne d2 with g2 | g2
  ·obtain ⟨k, hk⟩ : ∃ k, rk v = k + 1 := ⟨rk v - 1, by omega⟩
   have s2 : spa nx rk v k = true := spa_iff.2 (.inr ⟨by omega, by omega⟩)
   refine ⟨rk v, k, by omega, by omega, s1, s2, ?_⟩
   unfold psi
   rw [h.par_at hv (.inr ⟨rfl, rfl⟩) (by omega) (.inl rfl) s1, h.par_at hv (.inl ⟨rfl, rfl⟩) (by omega) (.inr hk) s2, h.spa_other hv hk, l1, show lft rk v k = false from decide_eq_false (by omega),
    show spa nx rk v (rk v) = false by unfold spa; rw [l2, show lft rk (nx v) (rk v) = true from decide_eq_true (by omega)]; rfl, show spa nx rk (pv v) k = false by unfold spa; rw [np, show lft rk (pv v) k = false from decide_eq_false (by omega), show lft rk v k = false from decide_eq_false (by omega)]; rfl, hk]
   simp
  ·have s2 : spa nx rk v (rk v) = true := spa_iff.2 (.inl ⟨by omega, by omega⟩)
   exact ⟨rk v, rk v, by omega, by omega, s1, s2, two (rk v) (by omega) (.inl rfl) s1 s2 (by rw [l1, l2]; rfl)⟩
theorem same {i k : Nat} (hi : i < n) (s1 : spa nx rk i k = true) : ∀ d, k + d + 1 < n → spa nx rk i (k + d) = true → psi n nx rk x y t i k = psi n nx rk x y t i (k + d) := by
  intro d
  induction d with
  | zero => intro _ _; rfl
  | succ d ih =>
    intro hd s2
    have r1 := spa_iff.1 s1
    have r2 := spa_iff.1 s2
    have s3 : spa nx rk i (k + d) = true := spa_iff.2 (by omega)
    obtain ⟨v, hv, hr⟩ := h.sur (k + d + 1) (by omega)
    exact (ih (by omega) s3).trans (h.step1 hi hv (by omega) hr s3 s2)
theorem same2 {i k k' : Nat} (hi : i < n) (hk : k + 1 < n) (hk' : k' + 1 < n) (s1 : spa nx rk i k = true) (s2 : spa nx rk i k' = true) : psi n nx rk x y t i k = psi n nx rk x y t i k' := by
 rcases Nat.le_total k k' with g | g
 ·obtain ⟨d, rfl⟩ := Nat.exists_eq_add_of_le g
  exact h.same hi s1 d hk' s2
 ·obtain ⟨d, rfl⟩ := Nat.exists_eq_add_of_le g
  exact (h.same hi s2 d hk s1).symm
theorem psi_all : ∃ b, ∀ i k, i < n → k + 1 < n → spa nx rk i k = true → psi n nx rk x y t i k = b := by
  obtain ⟨_, k0, _, hk0, _, s0, _⟩ := h.step2 (v := 0) (by have := h.n3; omega)
  refine ⟨psi n nx rk x y t 0 k0, fun i => ?_⟩
  induction i with
  | zero => intro k hi hk hs; exact h.same2 hi hk hk0 hs s0
  | succ i ih =>
    intro k hi hk hs
    obtain ⟨a, b, ha, hb, sa, sb, e⟩ := h.step2 hi
    have hp : pv (i + 1) = i := by rw [← h.nxs i hi]; exact h.pvnx i (by omega)
    rw [hp] at sa e
    rw [h.same2 hi hk hb hs sb, ← e]
    exact ih a (by omega) ha sa
end Pg
end
end Num.Sw
