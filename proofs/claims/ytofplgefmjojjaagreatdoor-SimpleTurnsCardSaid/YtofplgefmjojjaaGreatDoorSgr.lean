/- A simple polygon's area: told by slabs, of the sign of its leftmost corner's turn. Plain facts. -/
import Derived.Test.YtofplgefmjojjaaGreatDoorSgq
namespace Num.Sw
open Go Go.Proofs
def sm (f : Nat → Rat) : Nat → Rat
 | 0 => 0
 | n + 1 => sm f n + f n
theorem sm_congr {f g : Nat → Rat} {n : Nat} (h : ∀ j, j < n → f j = g j) : sm f n = sm g n := by
 induction n with
 | zero => rfl
 | succ n ih => unfold sm; rw [ih fun j hj => h j (by omega), h n (by omega)]
theorem sm_add (f g : Nat → Rat) (n : Nat) : sm (fun j => f j + g j) n = sm f n + sm g n := by
 induction n with
 | zero => unfold sm; grind
 | succ n ih => unfold sm; rw [ih]; grind
theorem sm_mul (a : Rat) (f : Nat → Rat) (n : Nat) : sm (fun j => a * f j) n = a * sm f n := by
 induction n with
 | zero => unfold sm; grind
 | succ n ih => unfold sm; rw [ih]; grind
theorem sm_none {f : Nat → Rat} {n : Nat} (h : ∀ j, j < n → f j = 0) : sm f n = 0 := by
 induction n with
 | zero => rfl
 | succ n ih => unfold sm; rw [ih fun j hj => h j (by omega), h n (by omega)]; grind
theorem sm_one {f : Nat → Rat} {n u : Nat} (hu : u < n) (h : ∀ j, j < n → j ≠ u → f j = 0) : sm f n = f u := by
  induction n with
  | zero => omega
  | succ n ih =>
    unfold sm
    by_cases e : u = n
    · subst e; rw [sm_none fun j hj => h j (by omega) (by omega)]; grind
    · rw [ih (by omega) fun j hj => h j (by omega), h n (by omega) (by omega)]; grind
theorem sm_swap (f : Nat → Nat → Rat) (n N : Nat) : sm (fun i => sm (f i) N) n = sm (fun k => sm (fun i => f i k) n) N := by
  induction n with
  | zero => exact (sm_none fun _ _ => rfl).symm
  | succ n ih =>
    show sm (fun i => sm (f i) N) n + sm (f n) N = _
    rw [ih, ← sm_add]; rfl
theorem sm_pos {f : Nat → Rat} {n u : Nat} (hu : u < n) (h : ∀ j, j < n → 0 ≤ f j) (hp : 0 < f u) : 0 < sm f n := by
  have nn : ∀ m, m ≤ n → 0 ≤ sm f m := by
    intro m
    induction m with
    | zero => intro _; exact Rat.le_refl
    | succ m ih => intro hm; have a := ih (by omega); have b := h m (by omega); unfold sm; grind
  induction n with
  | zero => omega
  | succ n ih =>
    unfold sm
    by_cases e : u = n
    · subst e; have := nn u (by omega); grind
    · have := ih (by omega) (fun j hj => h j (by omega)) (fun m hm => nn m (by omega)); have := h n (by omega); grind
theorem sm_tel {g : Nat → Rat} {lo hi : Nat} (h1 : lo ≤ hi) : ∀ {N : Nat}, hi ≤ N → sm (fun k => if lo ≤ k ∧ k < hi then g (k + 1) - g k else 0) N = g hi - g lo := by
  induction hi with
  | zero => intro N _; rw [sm_none fun j _ => if_neg (by omega)]; have : lo = 0 := by omega
            subst this; grind
  | succ hi ih =>
    intro N hN
    by_cases e : lo = hi + 1
    · subst e; rw [sm_none fun j _ => if_neg (by omega)]; grind
    · have e2 : sm (fun k => if lo ≤ k ∧ k < hi + 1 then g (k + 1) - g k else 0) N = sm (fun k => (if lo ≤ k ∧ k < hi then g (k + 1) - g k else 0) + (if k = hi then g (k + 1) - g k else 0)) N := sm_congr fun j _ => by
        by_cases a : j = hi
        · subst a; rw [if_pos ⟨by omega, by omega⟩, if_neg (by omega), if_pos rfl]; grind
        · by_cases b : lo ≤ j ∧ j < hi
          · rw [if_pos ⟨by omega, by omega⟩, if_pos b, if_neg a]; grind
          · rw [if_neg (by omega), if_neg b, if_neg a]; grind
      rw [e2, sm_add, ih (by omega) (by omega), sm_one (u := hi) (by omega) fun j _ hj => if_neg hj, if_pos rfl]; grind
def cnt (S : Nat → Bool) : Nat → Nat
 | 0 => 0
 | n + 1 => cnt S n + (if S n then 1 else 0)
def rmv (S : Nat → Bool) (e j : Nat) : Bool := S j && !decide (j = e)
theorem cnt_congr {S T : Nat → Bool} {n : Nat} (h : ∀ j, j < n → S j = T j) : cnt S n = cnt T n := by
 induction n with
 | zero => rfl
 | succ n ih => unfold cnt; rw [ih fun j hj => h j (by omega), h n (by omega)]
theorem cnt_rmv {S : Nat → Bool} {n e : Nat} (he : e < n) (hS : S e = true) : cnt (rmv S e) n + 1 = cnt S n := by
  induction n with
  | zero => omega
  | succ n ih =>
    unfold cnt
    by_cases a : e = n
    · subst a
      rw [cnt_congr (T := S) fun j hj => by unfold rmv; simp [show j ≠ e by omega]]
      simp [rmv, hS]
    · have := ih (by omega)
      have b : rmv S e n = S n := by unfold rmv; simp [show n ≠ e by omega]
      rw [b]; omega
theorem cnt_pos {S : Nat → Bool} {n : Nat} (h : cnt S n ≠ 0) : ∃ i, i < n ∧ S i = true := by
  induction n with
  | zero => exact absurd rfl h
  | succ n ih =>
    cases hS : S n with
    | true => exact ⟨n, by omega, hS⟩
    | false =>
      unfold cnt at h; rw [hS] at h
      obtain ⟨i, hi, g⟩ := ih (by simpa using h)
      exact ⟨i, by omega, g⟩
theorem top_of {S : Nat → Bool} {Y : Nat → Rat} : ∀ {n : Nat}, (∃ i, i < n ∧ S i = true) → ∃ e, e < n ∧ S e = true ∧ ∀ j, j < n → S j = true → Y j ≤ Y e := by
  intro n
  induction n with
  | zero => rintro ⟨i, hi, _⟩; omega
  | succ n ih =>
    rintro ⟨i, hi, hS⟩
    by_cases ex : ∃ i, i < n ∧ S i = true
    · obtain ⟨e, he, hSe, hm⟩ := ih ex
      by_cases g : S n = true ∧ Y e < Y n
      · refine ⟨n, by omega, g.1, fun j hj hSj => ?_⟩
        by_cases a : j = n
        · subst a; exact Rat.le_refl
        · have := hm j (by omega) hSj; have := g.2; grind
      · refine ⟨e, by omega, hSe, fun j hj hSj => ?_⟩
        by_cases a : j = n
        · subst a; exact Rat.not_lt.1 fun hh => g ⟨hSj, hh⟩
        · exact hm j (by omega) hSj
    · have : i = n := Decidable.byContradiction fun h => ex ⟨i, by omega, hS⟩
      subst this
      refine ⟨i, by omega, hS, fun j hj hSj => ?_⟩
      by_cases a : j = i
      · subst a; exact Rat.le_refl
      · exact absurd ⟨j, by omega, hSj⟩ ex
def sgA (S : Nat → Bool) (Y : Nat → Rat) (n i : Nat) : Rat := if S i then (if xs (fun j => S j && decide (Y i < Y j)) n then -1 else 1) else 0
theorem sgA_top {S : Nat → Bool} {Y : Nat → Rat} {n e : Nat} (hS : S e = true) (hm : ∀ j, j < n → S j = true → Y j ≤ Y e) : sgA S Y n e = 1 := by
 unfold sgA
 rw [if_pos hS, xs_none fun j hj => ?_]
 ·rfl
 ·cases h : S j with
  | false => rfl
  | true => exact decide_eq_false (Rat.not_lt.2 (hm j hj h))
theorem sgA_rmv {S : Nat → Bool} {Y : Nat → Rat} {n e i : Nat} (he : e < n) (hS : S e = true) (hie : i ≠ e) (hlt : S i = true → Y i < Y e) : sgA S Y n i = - sgA (rmv S e) Y n i := by
  unfold sgA
  cases h : S i with
  | false => simp [rmv, h]
  | true =>
    have e2 : rmv S e i = true := by unfold rmv; simp [h, hie]
    rw [e2, if_pos rfl, if_pos rfl]
    have e3 : xs (fun j => S j && decide (Y i < Y j)) n = !xs (fun j => rmv S e j && decide (Y i < Y j)) n := by
      have : xs (fun j => (S j && decide (Y i < Y j)) ^^ (rmv S e j && decide (Y i < Y j))) n = true := by
        rw [xs_one (u := e) he fun j _ hj => by unfold rmv; simp [hj]]
        simp [rmv, hS, hlt h]
      rw [xs_xor] at this
      revert this
      generalize xs _ n = a
      generalize xs _ n = b
      cases a <;> cases b <;> simp
    rw [e3]
    cases xs (fun j => rmv S e j && decide (Y i < Y j)) n <;> simp
theorem alt {Y : Nat → Rat} {n : Nat} : ∀ (c : Nat) (S : Nat → Bool), cnt S n = c → (∀ i j, i < n → j < n → i ≠ j → S i = true → S j = true → Y i ≠ Y j) →
    (sm (sgA S Y n) n = 0 → 0 ≤ sm (fun i => sgA S Y n i * Y i) n ∧ ((∃ i, i < n ∧ S i = true) → 0 < sm (fun i => sgA S Y n i * Y i) n)) ∧
    (sm (sgA S Y n) n = 1 → ∀ u, (∀ i, i < n → S i = true → Y i < u) → sm (fun i => sgA S Y n i * Y i) n < u) := by
  intro c
  induction c with
  | zero =>
    intro S hc _
    have none : ∀ i, i < n → S i = false := fun i hi => by
      cases h : S i with
      | false => rfl
      | true => have := cnt_rmv hi h; omega
    have z : ∀ i, i < n → sgA S Y n i = 0 := fun i hi => by unfold sgA; rw [none i hi]; rfl
    rw [sm_none z, sm_none (f := fun i => sgA S Y n i * Y i) fun i hi => by show sgA S Y n i * Y i = 0; rw [z i hi]; grind]
    exact ⟨fun _ => ⟨Rat.le_refl, fun ⟨i, hi, h⟩ => by rw [none i hi] at h; cases h⟩, fun h => by grind⟩
  | succ c ih =>
    intro S hc inj
    obtain ⟨e, he, hS, hm⟩ := top_of (Y := Y) (cnt_pos (S := S) (n := n) (by omega))
    have hlt : ∀ i, i < n → i ≠ e → S i = true → Y i < Y e := fun i hi hie h => by
      have a := hm i hi h; have b := inj i e hi he hie h hS; grind
    have r := ih (rmv S e) (by have := cnt_rmv he hS; omega) fun i j hi hj hij h1 h2 => inj i j hi hj hij (by unfold rmv at h1; simp at h1; exact h1.1) (by unfold rmv at h2; simp at h2; exact h2.1)
    have re : sgA (rmv S e) Y n e = 0 := by unfold sgA rmv; simp
    have zs : sm (sgA S Y n) n = 1 - sm (sgA (rmv S e) Y n) n := by
      have : sm (fun i => sgA S Y n i + sgA (rmv S e) Y n i) n = 1 := by
        rw [sm_one (u := e) he fun j hj hje => by rw [sgA_rmv he hS hje (hlt j hj hje)]; grind, sgA_top hS hm, re]; grind
      rw [sm_add] at this
      show sm (fun i => sgA S Y n i) n = 1 - sm (fun i => sgA (rmv S e) Y n i) n
      grind
    have ws : sm (fun i => sgA S Y n i * Y i) n = Y e - sm (fun i => sgA (rmv S e) Y n i * Y i) n := by
      have : sm (fun i => sgA S Y n i * Y i + sgA (rmv S e) Y n i * Y i) n = Y e := by
        rw [sm_one (u := e) he fun j hj hje => by rw [sgA_rmv he hS hje (hlt j hj hje)]; grind, sgA_top hS hm, re]; grind
      rw [sm_add] at this
      grind
    rw [zs, ws]
    refine ⟨fun h => ?_, fun h u hu => ?_⟩
    · have := r.2 (by grind) (Y e) fun i hi h => by
        unfold rmv at h; simp at h; exact hlt i hi h.2 h.1
      exact ⟨by grind, fun _ => by grind⟩
    · have a := (r.1 (by grind)).1
      have b := hu e he hS
      grind
section
variable {n : Nat} {nx pv rk : Nat → Nat} {x y t : Nat → Rat}
def dr (nx rk : Nat → Nat) (i k : Nat) : Rat := if spa nx rk i k then (if lft rk i k then 1 else -1) else 0
def trC (nx pv : Nat → Nat) (x y : Nat → Rat) (v : Nat) : Rat := (x v - x (pv v)) * (y (nx v) - y (pv v)) - (y v - y (pv v)) * (x (nx v) - x (pv v))
namespace Pg
variable (h : Pg n nx pv rk x y t)
include h
theorem edge_area {i : Nat} (hi : i < n) : sm (fun k => dr nx rk i k * ((t (k + 1) - t k) * (2 * Yh nx x y i (mdl t k)))) (n - 1) = (x (nx i) - x i) * (y i + y (nx i)) := by
 have hn := h.nxl i hi
 have hne : x (nx i) - x i ≠ 0 := fun e => h.dist _ _ hn hi (h.ne1 i hi) (by grind)
 obtain ⟨s, hs⟩ : ∃ s, s = (y (nx i) - y i) / (x (nx i) - x i) := ⟨_, rfl⟩
 have es : s * (x (nx i) - x i) = y (nx i) - y i := by rw [hs]; exact Rat.div_mul_cancel hne
 have step : ∀ k, (t (k + 1) - t k) * (2 * Yh nx x y i (mdl t k)) = (2 * y i * t (k + 1) + s * ((t (k + 1) - x i) * (t (k + 1) - x i))) - (2 * y i * t k + s * ((t k - x i) * (t k - x i))) := fun k => by
  obtain ⟨m, hm⟩ : ∃ m, m = mdl t k := ⟨_, rfl⟩
  have e2 : 2 * m = t k + t (k + 1) := by rw [hm]; unfold mdl; grind
  unfold Yh
  rw [← hs, ← hm]
  grind
 have r1 := h.rkl i hi
 have r2 := h.rkl _ hn
 rcases Nat.lt_or_ge (rk i) (rk (nx i)) with g | g
 ·have e := sm_tel (g := fun k => 2 * y i * t k + s * ((t k - x i) * (t k - x i))) (lo := rk i) (hi := rk (nx i)) (by omega) (N := n - 1) (by omega)
  rw [show sm _ (n - 1) = _ from sm_congr fun k _ => ?_, e, h.trk i hi, h.trk _ hn]
  ·grind
  ·show _ = if _ then _ else _
   rw [← step k]
   unfold dr
   by_cases c : rk i ≤ k ∧ k < rk (nx i)
   ·rw [if_pos c, if_pos (spa_iff.2 (.inl c)), if_pos (show lft rk i k = true from decide_eq_true c.1)]; grind
   ·rw [if_neg c, if_neg fun q => by rcases spa_iff.1 q with q | q <;> omega]; grind
 ·have e := sm_tel (g := fun k => -(2 * y i * t k + s * ((t k - x i) * (t k - x i)))) (lo := rk (nx i)) (hi := rk i) (by omega) (N := n - 1) (by omega)
  rw [show sm _ (n - 1) = _ from sm_congr fun k _ => ?_, e, h.trk i hi, h.trk _ hn]
  ·grind
  ·show _ = if _ then _ else _
   unfold dr
   by_cases c : rk (nx i) ≤ k ∧ k < rk i
   ·rw [if_pos c, if_pos (spa_iff.2 (.inr c)), if_neg (show ¬ lft rk i k = true from fun q => by have := of_decide_eq_true q; omega), step k]; grind
   ·rw [if_neg c, if_neg fun q => by rcases spa_iff.1 q with q | q <;> omega]; grind
theorem sm_nx (g : Nat → Rat) : sm (fun i => g (nx i) - g i) n = 0 := by
 have h3 := h.n3
 obtain ⟨m, rfl⟩ : ∃ m, n = m + 1 := ⟨n - 1, by omega⟩
 have w : nx m = 0 := h.nxw
 have e : sm (fun i => g (nx i) - g i) m = g m - g 0 := by
  have := sm_tel (g := g) (lo := 0) (hi := m) (Nat.zero_le _) (N := m) (Nat.le_refl _)
  rw [← this]
  refine sm_congr fun j hj => ?_
  rw [if_pos ⟨Nat.zero_le _, hj⟩, h.nxs j (by omega)]
 show sm (fun i => g (nx i) - g i) m + (g (nx m) - g m) = 0
 rw [e, w]; grind
theorem slab {b : Bool} (hb : ∀ i k, i < n → k + 1 < n → spa nx rk i k = true → psi n nx rk x y t i k = b) {k : Nat} (hk : k + 1 < n) :
    0 ≤ (if b then 1 else -1) * sm (fun i => dr nx rk i k * Yh nx x y i (mdl t k)) n ∧ ((∃ i, i < n ∧ spa nx rk i k = true) → 0 < (if b then 1 else -1) * sm (fun i => dr nx rk i k * Yh nx x y i (mdl t k)) n) := by
  have e : ∀ i, i < n → sgA (fun i => spa nx rk i k) (fun i => Yh nx x y i (mdl t k)) n i = (if b then 1 else -1) * dr nx rk i k := fun i hi => by
    unfold sgA dr
    cases hs : spa nx rk i k with
    | false => simp [hs]
    | true =>
      have p := hb i k hi hk hs
      unfold psi abv at p
      rw [← p]
      simp only [if_true]
      generalize xs _ n = a
      cases a <;> cases lft rk i k <;> simp <;> grind
  have z : sm (sgA (fun i => spa nx rk i k) (fun i => Yh nx x y i (mdl t k)) n) n = 0 := by
    rw [sm_congr e, sm_mul]
    have := h.sm_nx fun i => if lft rk i k then (-1 : Rat) else 0
    rw [show sm (dr nx rk · k) n = 0 from ?_]
    · grind
    · rw [← this]
      refine sm_congr fun i _ => ?_
      unfold dr spa
      cases lft rk i k <;> cases lft rk (nx i) k <;> simp <;> grind
  have r := (alt (Y := fun i => Yh nx x y i (mdl t k)) (n := n) _ (fun i => spa nx rk i k) rfl fun i j hi hj hij si sj => h.no_eq hi hj hij hk si sj (h.mid_in hk).1 (h.mid_in hk).2).1 z
  rw [show sm (fun i => sgA (fun i => spa nx rk i k) (fun i => Yh nx x y i (mdl t k)) n i * Yh nx x y i (mdl t k)) n = (if b then 1 else -1) * sm (fun i => dr nx rk i k * Yh nx x y i (mdl t k)) n from by
    rw [← sm_mul]
    exact sm_congr fun i hi => by rw [e i hi]; grind] at r
  exact r
theorem area_b {b : Bool} (hb : ∀ i k, i < n → k + 1 < n → spa nx rk i k = true → psi n nx rk x y t i k = b) : 0 < (if b then 1 else -1) * sm (fun i => (x (nx i) - x i) * (y i + y (nx i))) n := by
 have h3 := h.n3
 rw [← sm_congr fun i hi => h.edge_area hi, sm_swap, ← sm_mul]
 have e : ∀ k, (if b then 1 else -1) * sm (fun i => dr nx rk i k * ((t (k + 1) - t k) * (2 * Yh nx x y i (mdl t k)))) n = (2 * (t (k + 1) - t k)) * ((if b then 1 else -1) * sm (fun i => dr nx rk i k * Yh nx x y i (mdl t k)) n) := fun k => by
  rw [show sm (fun i => dr nx rk i k * ((t (k + 1) - t k) * (2 * Yh nx x y i (mdl t k)))) n = (2 * (t (k + 1) - t k)) * sm (fun i => dr nx rk i k * Yh nx x y i (mdl t k)) n from by
   rw [← sm_mul]; exact sm_congr fun i _ => by grind]
  grind
 have pos : ∀ k, k + 1 < n → 0 < 2 * (t (k + 1) - t k) := fun k hk => by have := h.tm k (k + 1) (by omega) hk; grind
 refine sm_pos (u := 0) (by omega) (fun k hk => ?_) ?_
 ·show 0 ≤ (if b then 1 else -1) * sm _ n
  rw [e k]
  exact Rat.mul_nonneg (by have := pos k (by omega); grind) (h.slab hb (by omega)).1
 ·show 0 < (if b then 1 else -1) * sm _ n
  rw [e 0]
  refine Rat.mul_pos (pos 0 (by omega)) ((h.slab hb (by omega)).2 ?_)
  obtain ⟨v, hv, hr⟩ := h.sur 0 (by omega)
  refine ⟨v, hv, spa_iff.2 (.inl ⟨by omega, ?_⟩)⟩
  rcases Nat.eq_zero_or_pos (rk (nx v)) with g | g
  ·exact absurd (h.rinj (h.nxl v hv) hv (by omega)) (h.ne1 v hv)
  ·exact g
theorem turn_b {b : Bool} (hb : ∀ i k, i < n → k + 1 < n → spa nx rk i k = true → psi n nx rk x y t i k = b) {v : Nat} (hv : v < n) (hr : rk v = 0) : if b then trC nx pv x y v < 0 else 0 < trC nx pv x y v := by
  have h3 := h.n3
  have hp := h.pvl v hv
  have hnl := h.nxl v hv
  have np := h.nxpv v hv
  have z1 : 0 < rk (pv v) := Nat.pos_of_ne_zero fun g => h.pv_ne hv (h.rinj hp hv (by omega))
  have z2 : 0 < rk (nx v) := Nat.pos_of_ne_zero fun g => h.ne1 v hv (h.rinj hnl hv (by omega))
  have s1 : spa nx rk (pv v) 0 = true := spa_iff.2 (.inr ⟨by rw [np]; omega, z1⟩)
  have s2 : spa nx rk v 0 = true := spa_iff.2 (.inl ⟨by omega, z2⟩)
  have p := hb (pv v) 0 hp (by omega) s1
  unfold psi at p
  rw [h.par_at hv (.inr ⟨rfl, rfl⟩) (by omega) (.inl hr) s1, s2, xs_none fun j hj => ?_, show lft rk (pv v) 0 = false from decide_eq_false (by omega)] at p
  · have hm := h.mid_in (k := 0) (by omega)
    have ne := h.no_eq hp hv (h.pv_ne hv) (by omega) s1 s2 hm.1 hm.2
    have xv : t 0 = x v := by rw [← hr]; exact h.trk v hv
    have xp : x v < x (pv v) := by rw [← xv, ← h.trk _ hp]; exact h.tm _ _ z1 (h.rkl _ hp)
    have xn : x v < x (nx v) := by rw [← xv, ← h.trk _ hnl]; exact h.tm _ _ z2 (h.rkl _ hnl)
    obtain ⟨m, hmd⟩ : ∃ m, m = mdl t 0 := ⟨_, rfl⟩
    rw [← hmd] at p ne hm
    rw [xv] at hm
    have hm1 := hm.1
    unfold Yh at p ne
    rw [np] at p ne
    obtain ⟨sp, hsp⟩ : ∃ s, s = (y v - y (pv v)) / (x v - x (pv v)) := ⟨_, rfl⟩
    obtain ⟨sn, hsn⟩ : ∃ s, s = (y (nx v) - y v) / (x (nx v) - x v) := ⟨_, rfl⟩
    have e1 : sp * (x v - x (pv v)) = y v - y (pv v) := by rw [hsp]; exact Rat.div_mul_cancel (by grind)
    have e2 : sn * (x (nx v) - x v) = y (nx v) - y v := by rw [hsn]; exact Rat.div_mul_cancel (by grind)
    rw [← hsp, ← hsn] at p ne
    have hc : trC nx pv x y v = (x (pv v) - x v) * (x (nx v) - x v) * (sp - sn) := by
      unfold trC
      have a1 : y (pv v) = y v - sp * (x v - x (pv v)) := by grind
      have a2 : y (nx v) = y v + sn * (x (nx v) - x v) := by grind
      rw [a1, a2]; grind
    have q1 : y (pv v) + sp * (m - x (pv v)) = y v + sp * (m - x v) := by grind
    rw [q1] at p ne
    have pp := Rat.mul_pos (show 0 < x (pv v) - x v by grind) (show 0 < x (nx v) - x v by grind)
    have p' : decide (y v + sp * (m - x v) < y v + sn * (m - x v)) = b := by simpa using p
    rw [hc]
    cases b with
    | true =>
      have g := of_decide_eq_true p'
      have : sp < sn := Rat.not_le.1 fun hh => by
        have := Rat.mul_nonneg (show 0 ≤ sp - sn by grind) (show 0 ≤ m - x v by grind); grind
      have := Rat.mul_pos pp (show 0 < sn - sp by grind)
      simp only [if_true]; grind
    | false =>
      have g := of_decide_eq_false p'
      have : sn < sp := Rat.not_le.1 fun hh => by
        by_cases k : sp = sn
        · rw [k] at ne; exact ne rfl
        · have := Rat.mul_pos (show 0 < sn - sp by grind) (show 0 < m - x v by grind); grind
      have := Rat.mul_pos pp (show 0 < sp - sn by grind)
      simpa using this
  · by_cases e1 : j = v
    · simp [e1]
    · by_cases e2 : j = pv v
      · simp [e2]
      · have : spa nx rk j 0 = false := by
          cases g : spa nx rk j 0 with
          | false => rfl
          | true =>
            rcases spa_iff.1 g with ⟨a, _⟩ | ⟨a, _⟩
            · exact absurd (h.rinj hj hv (by omega)) e1
            · exact absurd (by rw [← h.rinj (h.nxl j hj) hv (by omega), h.pvnx j hj]) e2
        rw [this]; simp
theorem area_sign : ∃ v, v < n ∧ ((0 < trC nx pv x y v ∧ 0 < sm (fun i => x i * y (nx i) - y i * x (nx i)) n) ∨ (trC nx pv x y v < 0 ∧ sm (fun i => x i * y (nx i) - y i * x (nx i)) n < 0)) := by
 obtain ⟨b, hb⟩ := h.psi_all
 obtain ⟨v, hv, hr⟩ := h.sur 0 (by have := h.n3; omega)
 have a := h.area_b hb
 have c := h.turn_b hb hv hr
 have e : sm (fun i => x i * y (nx i) - y i * x (nx i)) n = - sm (fun i => (x (nx i) - x i) * (y i + y (nx i))) n := by
  have z := h.sm_nx fun i => x i * y i
  have : sm (fun i => (x i * y (nx i) - y i * x (nx i)) + (x (nx i) - x i) * (y i + y (nx i))) n = 0 := by
   rw [← z]; exact sm_congr fun i _ => by grind
  rw [sm_add] at this
  grind
 refine ⟨v, hv, ?_⟩
 rw [e]
 cases b with
 | true => exact .inr ⟨by simpa using c, by simp at a; grind⟩
 | false => exact .inl ⟨by simpa using c, by simp at a; grind⟩
end Pg
end
end Num.Sw
