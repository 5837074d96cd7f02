/- A simple polygon that turns left at each corner: each corner is on the left of each edge; without a corner it is one still. Plain facts. -/
import Derived.Test.YtofplgefmjojjaaGreatDoorSgs
namespace Num.Sw
open Go Go.Proofs
section
variable {n : Nat} {nx pv rk : Nat → Nat} {x y t : Nat → Rat}
namespace Pg
variable (h : Pg n nx pv rk x y t)
include h
theorem left_at {v k : Nat} (hv : v < n) (hl : 0 < trC nx pv x y v) (hk : k + 1 < n) :
  (rk v = k + 1 → spa nx rk v k = true → spa nx rk (pv v) k = true → Yh nx x y (pv v) (mdl t k) < Yh nx x y v (mdl t k)) ∧
  (rk v = k → spa nx rk v k = true → spa nx rk (pv v) k = true → Yh nx x y v (mdl t k) < Yh nx x y (pv v) (mdl t k)) := by
 have hp := h.pvl v hv
 have hnl := h.nxl v hv
 have np := h.nxpv v hv
 have hm := h.mid_in hk
 have dp : x v - x (pv v) ≠ 0 := fun e => h.dist v (pv v) hv hp (Ne.symm (h.pv_ne hv)) (by grind)
 have dn : x (nx v) - x v ≠ 0 := fun e => h.dist (nx v) v hnl hv (h.ne1 v hv) (by grind)
 obtain ⟨m, hmd⟩ : ∃ m, m = mdl t k := ⟨_, rfl⟩
 rw [← hmd] at hm ⊢
 unfold Yh
 rw [np]
 obtain ⟨sp, hsp⟩ : ∃ s, s = (y v - y (pv v)) / (x v - x (pv v)) := ⟨_, rfl⟩
 obtain ⟨sn, hsn⟩ : ∃ s, s = (y (nx v) - y v) / (x (nx v) - x v) := ⟨_, rfl⟩
 have e1 : sp * (x v - x (pv v)) = y v - y (pv v) := by rw [hsp]; exact Rat.div_mul_cancel dp
 have e2 : sn * (x (nx v) - x v) = y (nx v) - y v := by rw [hsn]; exact Rat.div_mul_cancel dn
 rw [← hsp, ← hsn]
 have hc : trC nx pv x y v = (x (pv v) - x v) * (x (nx v) - x v) * (sp - sn) := by
  unfold trC
  have a1 : y (pv v) = y v - sp * (x v - x (pv v)) := by grind
  have a2 : y (nx v) = y v + sn * (x (nx v) - x v) := by grind
  rw [a1, a2]; grind
 rw [hc] at hl
 have q1 : y (pv v) + sp * (m - x (pv v)) = y v + sp * (m - x v) := by grind
 rw [q1]
 have lt : ∀ a b, a < n → b < n → rk a < rk b → x a < x b := fun a b ha hb g => by rw [← h.trk a ha, ← h.trk b hb]; exact h.tm _ _ g (h.rkl b hb)
 have dif : 0 < (x (pv v) - x v) * (x (nx v) - x v) → sn < sp := fun g => Rat.not_le.1 fun hh => by
  have := Rat.mul_nonneg (Rat.le_of_lt g) (show 0 ≤ sn - sp by grind); grind
 have vk := h.trk v hv
 refine ⟨fun hr s1 s2 => ?_, fun hr s1 s2 => ?_⟩
 ·have r1 := spa_iff.1 s1
  have r2 := spa_iff.1 s2
  rw [np] at r2
  have xp := lt (pv v) v hp hv (by omega)
  have xn := lt (nx v) v hnl hv (by omega)
  have g := dif (by have := Rat.mul_pos (show 0 < x v - x (pv v) by grind) (show 0 < x v - x (nx v) by grind); grind)
  rw [hr] at vk
  have := Rat.mul_pos (show 0 < sp - sn by grind) (show 0 < x v - m by grind)
  grind
 ·have r1 := spa_iff.1 s1
  have r2 := spa_iff.1 s2
  rw [np] at r2
  have xp := lt v (pv v) hv hp (by omega)
  have xn := lt v (nx v) hv hnl (by omega)
  have g := dif (Rat.mul_pos (show 0 < x (pv v) - x v by grind) (show 0 < x (nx v) - x v by grind))
  rw [hr] at vk
  have := Rat.mul_pos (show 0 < sp - sn by grind) (show 0 < m - x v by grind)
  grind
theorem keepI {i j k v : Nat} (hi : i < n) (hj : j < n) (hij : i ≠ j) (hk : k + 1 < n) (hv : v < n) (hkv : rk v = k ∨ rk v = k + 1) (si : spa nx rk i k = true) (sj : spa nx rk j k = true) (g1 : ¬ (v = nx i ∧ j = nx i)) (g2 : ¬ (v = i ∧ i = nx j)) :
  Yh nx x y i (mdl t k) < Yh nx x y j (mdl t k) ↔ Yh nx x y i (x v) < Yh nx x y j (x v) := by
 have := h.keep hi hj hij hk hv hkv si sj g1 g2
 by_cases a : Yh nx x y i (mdl t k) < Yh nx x y j (mdl t k)
 ·rw [decide_eq_true a] at this; exact ⟨fun _ => of_decide_eq_true this.symm, fun _ => a⟩
 ·rw [decide_eq_false a] at this; exact ⟨fun q => absurd q a, fun q => absurd q (of_decide_eq_false this.symm)⟩
end Pg
structure Two (n : Nat) (nx rk : Nat → Nat) (x y t : Nat → Rat) (k a b : Nat) : Prop where
 ab : a < b
 bn : b < n
 a1 : rk a ≤ k
 a2 : k < rk (nx a)
 b1 : k < rk b
 b2 : rk (nx b) ≤ k
 up : ∀ i, i < a → rk i < rk (i + 1)
 dn : ∀ i, b < i → i + 1 < n → rk (i + 1) < rk i
 lt : Yh nx x y a (mdl t k) < Yh nx x y b (mdl t k)
 bt : ∀ j, j < n → spa nx rk j k = true → Yh nx x y a (mdl t k) < Yh nx x y j (mdl t k) → Yh nx x y j (mdl t k) < Yh nx x y b (mdl t k) → False
def Uni (n : Nat) (rk : Nat → Nat) : Prop := ∃ m, 0 < m ∧ m < n ∧ (∀ i, i < m → rk i < rk (i + 1)) ∧ ∀ i, m ≤ i → i + 1 < n → rk (i + 1) < rk i
namespace Pg
variable (h : Pg n nx pv rk x y t)
include h
theorem two_zero (hl : ∀ v, v < n → 0 < trC nx pv x y v) (h0 : rk 0 = 0) : Two n nx rk x y t 0 0 (n - 1) := by
 have h3 := h.n3
 have n0 : nx 0 = 1 := h.nxs 0 (by omega)
 have p0 : pv 0 = n - 1 := by have := h.pvnx (n - 1) (by omega); rw [h.nxw] at this; exact this
 have r1 : 0 < rk 1 := Nat.pos_of_ne_zero fun e => by have := h.rinj (i := 1) (j := 0) (by omega) (by omega) (by omega); omega
 have r2 : 0 < rk (n - 1) := Nat.pos_of_ne_zero fun e => by have := h.rinj (i := n - 1) (j := 0) (by omega) (by omega) (by omega); omega
 have s1 : spa nx rk 0 0 = true := spa_iff.2 (.inl ⟨by omega, by rw [n0]; exact r1⟩)
 have s2 : spa nx rk (n - 1) 0 = true := spa_iff.2 (.inr ⟨by rw [h.nxw]; omega, r2⟩)
 have lt := (h.left_at (v := 0) (k := 0) (by omega) (hl 0 (by omega)) (by omega)).2 h0 s1 (by rw [p0]; exact s2)
 rw [p0] at lt
 refine ⟨by omega, by omega, by omega, by rw [n0]; exact r1, r2, by rw [h.nxw]; omega, fun i hi => by omega, fun i hi hi2 => by omega, lt, fun j hj sj l1 l2 => ?_⟩
 have e : j = 0 ∨ j = n - 1 := by
  rcases spa_iff.1 sj with ⟨g, _⟩ | ⟨g, _⟩
  ·exact .inl (h.rinj hj (by omega) (by omega))
  ·right
   have : nx j = 0 := h.rinj (h.nxl j hj) (by omega) (by omega)
   have := h.pvnx j hj
   rw [‹nx j = 0›, p0] at this; exact this.symm
 rcases e with rfl | rfl
 ·exact Rat.lt_irrefl l1
 ·exact Rat.lt_irrefl l2
theorem off_next {j v k : Nat} (hj : j < n) (hv : v < n) (hr : rk v = k + 1) (h1 : j ≠ v) (h2 : j ≠ pv v) : spa nx rk j k = spa nx rk j (k + 1) := by
 have := h.spa_step hj hv hr
 rw [decide_eq_false h1, decide_eq_false fun q => h2 (by rw [← q, h.pvnx j hj])] at this
 revert this; cases spa nx rk j k <;> cases spa nx rk j (k + 1) <;> simp
theorem two_off {k a b v : Nat} (hb : ∀ i k, i < n → k + 1 < n → spa nx rk i k = true → psi n nx rk x y t i k = false) (hl : ∀ v, v < n → 0 < trC nx pv x y v) (w : Two n nx rk x y t k a b) (hk : k + 2 < n) (hv : v < n) (hr : rk v = k + 1) (h1 : v ≠ nx a) (h2 : v ≠ b) :
    Two n nx rk x y t (k + 1) a b := by
  have ha : a < n := Nat.lt_trans w.ab w.bn
  have hbn := w.bn
  have hna := h.nxl a ha
  have hnb := h.nxl b hbn
  have a2 : k + 1 < rk (nx a) := Nat.lt_of_le_of_ne w.a2 fun e => h1 (h.rinj hv hna (by omega))
  have b1 : k + 1 < rk b := Nat.lt_of_le_of_ne w.b1 fun e => h2 (h.rinj hv hbn (by omega))
  have h3 : v ≠ a := fun e => by have := w.a1; rw [← e] at this; omega
  have h4 : v ≠ nx b := fun e => by have := w.b2; rw [← e] at this; omega
  have h5 : pv v ≠ a := fun e => h1 (by rw [← e, h.nxpv v hv])
  have h6 : pv v ≠ b := fun e => h4 (by rw [← e, h.nxpv v hv])
  have hab : a ≠ b := Nat.ne_of_lt w.ab
  have sa : spa nx rk a k = true := spa_iff.2 (.inl ⟨w.a1, w.a2⟩)
  have sb : spa nx rk b k = true := spa_iff.2 (.inr ⟨w.b2, w.b1⟩)
  have sa' : spa nx rk a (k + 1) = true := spa_iff.2 (.inl ⟨by have := w.a1; omega, a2⟩)
  have sb' : spa nx rk b (k + 1) = true := spa_iff.2 (.inr ⟨by have := w.b2; omega, b1⟩)
  -- order at the corner
  have aj : ∀ k', (k' = k ∨ k' = k + 1) → ∀ j, j < n → j ≠ a → spa nx rk a k' = true → spa nx rk j k' = true → (Yh nx x y a (mdl t k') < Yh nx x y j (mdl t k') ↔ Yh nx x y a (x v) < Yh nx x y j (x v)) := fun k' hk' j hj hja s1 s2 =>
    h.keepI ha hj (Ne.symm hja) (by omega) hv (by omega) s1 s2 (fun q => h1 q.1) (fun q => h3 q.1)
  have jb : ∀ k', (k' = k ∨ k' = k + 1) → ∀ j, j < n → j ≠ b → spa nx rk b k' = true → spa nx rk j k' = true → (Yh nx x y j (mdl t k') < Yh nx x y b (mdl t k') ↔ Yh nx x y j (x v) < Yh nx x y b (x v)) := fun k' hk' j hj hjb s1 s2 =>
    h.keepI hj hbn hjb (by omega) hv (by omega) s2 s1 (fun q => h2 (q.1.trans q.2.symm)) (fun q => h4 (q.1.trans q.2))
  have bj : ∀ j, j < n → j ≠ b → spa nx rk j k = true → (Yh nx x y b (mdl t k) < Yh nx x y j (mdl t k) ↔ Yh nx x y b (x v) < Yh nx x y j (x v)) := fun j hj hjb s2 =>
    h.keepI hbn hj (Ne.symm hjb) (by omega) hv (.inr hr) sb s2 (fun q => h4 q.1) (fun q => h2 q.1)
  have ja : ∀ j, j < n → j ≠ a → spa nx rk j k = true → (Yh nx x y j (mdl t k) < Yh nx x y a (mdl t k) ↔ Yh nx x y j (x v) < Yh nx x y a (x v)) := fun j hj hja s2 =>
    h.keepI hj ha hja (by omega) hv (.inr hr) s2 sa (fun q => h3 (q.1.trans q.2.symm)) (fun q => h1 (q.1.trans q.2))
  have labv : Yh nx x y a (x v) < Yh nx x y b (x v) := (aj k (.inl rfl) b hbn (Ne.symm hab) sa sb).1 w.lt
  have hm := h.mid_in (k := k) (by omega)
  -- the corner is not between
  have nob : Yh nx x y a (x v) < y v → y v < Yh nx x y b (x v) → False := fun l1 l2 => by
    have hp := h.pvl v hv
    have clash : ∀ e, (e = v ∨ e = pv v) → spa nx rk e k = true → False := fun e he se => by
      have hel : e < n := by rcases he with q | q <;> rw [q] <;> assumption
      have ye : Yh nx x y e (x v) = y v := by rcases he with q | q <;> rw [q]; exact y_lo v; exact h.y_pv hv
      have ea : e ≠ a := by rcases he with q | q <;> rw [q] <;> assumption
      have eb : e ≠ b := by rcases he with q | q <;> rw [q] <;> assumption
      exact w.bt e hel se ((aj k (.inl rfl) e hel ea sa se).2 (by rw [ye]; exact l1)) ((jb k (.inl rfl) e hel eb sb se).2 (by rw [ye]; exact l2))
    have c1 : spa nx rk v k = false := by cases g : spa nx rk v k with | false => rfl | true => exact (clash v (.inl rfl) g).elim
    have c2 : spa nx rk (pv v) k = false := by cases g : spa nx rk (pv v) k with | false => rfl | true => exact (clash (pv v) (.inr rfl) g).elim
    have d1 : spa nx rk v (k + 1) = true := by
      have := h.spa_step hv hv hr
      rw [c1, decide_eq_true rfl, decide_eq_false (h.ne1 v hv)] at this
      simpa using this
    have d2 : spa nx rk (pv v) (k + 1) = true := by
      have := h.spa_step hp hv hr
      rw [c2, decide_eq_false (h.pv_ne hv), h.nxpv v hv, decide_eq_true rfl] at this
      simpa using this
    have lv := (h.left_at (v := v) (k := k + 1) hv (hl v hv) hk).2 hr d1 d2
    have p := hb v (k + 1) hv hk d1
    unfold psi at p
    rw [h.par_at hv (.inl ⟨rfl, rfl⟩) hk (.inl hr) d1, d2, decide_eq_true lv, show lft rk v (k + 1) = true from decide_eq_true (by omega), ← h.spa_other hv hr] at p
    have q := hb b k hbn (by omega) sb
    unfold psi at q
    rw [show lft rk b k = false from decide_eq_false (by have := w.b1; omega)] at q
    unfold abv at q
    have e : xs (fun j => ((!decide (j = v) && !decide (j = pv v)) && (spa nx rk j k && decide (y v < Yh nx x y j (x v)))) ^^ (spa nx rk j k && decide (Yh nx x y b (mdl t k) < Yh nx x y j (mdl t k)))) n = true := by
      rw [xs_one (u := b) hbn fun j hj hjb => ?_]
      · rw [sb, decide_eq_true l2, decide_eq_false (Ne.symm h2), decide_eq_false (Ne.symm h6), decide_eq_false Rat.lt_irrefl]; rfl
      · cases sj : spa nx rk j k with
        | false => simp
        | true =>
          have e1 : j ≠ v := fun q => by rw [q, c1] at sj; cases sj
          have e2 : j ≠ pv v := fun q => by rw [q, c2] at sj; cases sj
          rw [decide_eq_false e1, decide_eq_false e2]
          have : y v < Yh nx x y j (x v) ↔ Yh nx x y b (mdl t k) < Yh nx x y j (mdl t k) := by
            constructor
            · intro g
              refine Rat.not_le.1 fun g2 => ?_
              have ne := h.no_eq hj hbn hjb (by omega) sj sb hm.1 hm.2
              have g3 : Yh nx x y j (mdl t k) < Yh nx x y b (mdl t k) := by grind
              by_cases eja : j = a
              · subst eja; grind
              · have ne2 := h.no_eq hj ha eja (by omega) sj sa hm.1 hm.2
                by_cases g4 : Yh nx x y a (mdl t k) < Yh nx x y j (mdl t k)
                · exact w.bt j hj sj g4 g3
                · have := (ja j hj eja sj).1 (by grind); grind
            · intro g
              have := (bj j hj hjb sj).1 g
              grind
          by_cases g : y v < Yh nx x y j (x v)
          · rw [decide_eq_true g, decide_eq_true (this.1 g)]; rfl
          · rw [decide_eq_false g, decide_eq_false fun q => g (this.2 q)]; rfl
    rw [xs_xor] at e
    revert p q e
    generalize xs _ n = A
    generalize xs _ n = B
    cases A <;> cases B <;> simp
  refine ⟨w.ab, hbn, by have := w.a1; omega, a2, b1, by have := w.b2; omega, w.up, w.dn, (aj (k + 1) (.inr rfl) b hbn (Ne.symm hab) sa' sb').2 labv, fun j hj sj l1 l2 => ?_⟩
  have hja : j ≠ a := fun q => by rw [q] at l1; exact Rat.lt_irrefl l1
  have hjb : j ≠ b := fun q => by rw [q] at l2; exact Rat.lt_irrefl l2
  have m1 := (aj (k + 1) (.inr rfl) j hj hja sa' sj).1 l1
  have m2 := (jb (k + 1) (.inr rfl) j hj hjb sb' sj).1 l2
  by_cases e1 : j = v
  · subst e1; rw [y_lo] at m1 m2; exact nob m1 m2
  · by_cases e2 : j = pv v
    · subst e2; rw [h.y_pv hv] at m1 m2; exact nob m1 m2
    · have s : spa nx rk j k = true := by rw [h.off_next hj hv hr e1 e2]; exact sj
      exact w.bt j hj s ((aj k (.inl rfl) j hj hja sa s).2 m1) ((jb k (.inl rfl) j hj hjb sb s).2 m2)
theorem two_low {k a b : Nat} (hl : ∀ v, v < n → 0 < trC nx pv x y v) (w : Two n nx rk x y t k a b) (hk : k + 2 < n) (hr : rk (a + 1) = k + 1) (h2 : a + 1 ≠ b) : Two n nx rk x y t (k + 1) (a + 1) b := by
 have hab := w.ab
 have hbn := w.bn
 have ha : a < n := by omega
 have hv : a + 1 < n := by omega
 have na : nx a = a + 1 := h.nxs a hv
 have nv : nx (a + 1) = a + 2 := h.nxs (a + 1) (by omega)
 have pva : pv (a + 1) = a := by rw [← na]; exact h.pvnx a ha
 have hnv := h.nxl _ hv
 have b1 : k + 1 < rk b := Nat.lt_of_le_of_ne w.b1 fun e => h2 (h.rinj hv hbn (by omega))
 have h4 : a + 1 ≠ nx b := fun e => by have := w.b2; rw [← e] at this; omega
 have sa : spa nx rk a k = true := spa_iff.2 (.inl ⟨w.a1, w.a2⟩)
 have sb : spa nx rk b k = true := spa_iff.2 (.inr ⟨w.b2, w.b1⟩)
 have sb' : spa nx rk b (k + 1) = true := spa_iff.2 (.inr ⟨by have := w.b2; omega, b1⟩)
 have ya : Yh nx x y a (x (a + 1)) = y (a + 1) := by have := h.y_pv hv; rwa [pva] at this
 have jb : ∀ k', (k' = k ∨ k' = k + 1) → ∀ j, j < n → j ≠ b → spa nx rk b k' = true → spa nx rk j k' = true → (Yh nx x y j (mdl t k') < Yh nx x y b (mdl t k') ↔ Yh nx x y j (x (a + 1)) < Yh nx x y b (x (a + 1))) := fun k' hk' j hj hjb s1 s2 =>
  h.keepI hj hbn hjb (by omega) hv (by omega) s2 s1 (fun q => h2 (q.1.trans q.2.symm)) (fun q => h4 (q.1.trans q.2))
 have lv : y (a + 1) < Yh nx x y b (x (a + 1)) := by rw [← ya]; exact (jb k (.inl rfl) a ha (by omega) sb sa).1 w.lt
 have rn : rk (nx (a + 1)) ≠ k + 1 := fun e => h.ne1 _ hv (h.rinj hnv hv (by omega))
 rcases Nat.lt_or_gt_of_ne rn with g | g
 ·exfalso
  have sv : spa nx rk (a + 1) k = true := spa_iff.2 (.inr ⟨by omega, by omega⟩)
  have l1 := (h.left_at (v := a + 1) (k := k) hv (hl _ hv) (by omega)).1 hr sv (by rw [pva]; exact sa)
  rw [pva] at l1
  exact w.bt _ hv sv l1 ((jb k (.inl rfl) (a + 1) hv h2 sb sv).2 (by rw [y_lo]; exact lv))
 ·have sv : spa nx rk (a + 1) (k + 1) = true := spa_iff.2 (.inl ⟨by omega, g⟩)
  have nsa : spa nx rk a (k + 1) = false := by
   cases q : spa nx rk a (k + 1) with
   | false => rfl
   | true => have := spa_iff.1 q; rw [na] at this; have := w.a1; omega
  have vj : ∀ j, j < n → j ≠ a + 1 → j ≠ a → spa nx rk j (k + 1) = true → (Yh nx x y (a + 1) (mdl t (k + 1)) < Yh nx x y j (mdl t (k + 1)) ↔ y (a + 1) < Yh nx x y j (x (a + 1))) := fun j hj e1 e2 s => by
   have := h.keepI hv hj (Ne.symm e1) hk hv (.inl hr) sv s (fun q => h.ne1 _ hv q.1.symm) (fun q => e2 (by rw [← pva, q.2, h.pvnx j hj]))
   rw [y_lo] at this; exact this
  refine ⟨by omega, hbn, by omega, g, b1, by have := w.b2; omega, fun i hi => ?_, w.dn, (vj b hbn (Ne.symm h2) (by omega) sb').2 lv, fun j hj sj l1 l2 => ?_⟩
  ·rcases Nat.lt_or_ge i a with q | q
   ·exact w.up i q
   ·rw [show i = a by omega]; have := w.a1; omega
  ·have e1 : j ≠ a + 1 := fun q => by rw [q] at l1; exact Rat.lt_irrefl l1
   have e2 : j ≠ a := fun q => by rw [q, nsa] at sj; cases sj
   have e3 : j ≠ b := fun q => by rw [q] at l2; exact Rat.lt_irrefl l2
   have m1 := (vj j hj e1 e2 sj).1 l1
   have m2 := (jb (k + 1) (.inr rfl) j hj e3 sb' sj).1 l2
   have s : spa nx rk j k = true := by rw [h.off_next hj hv hr e1 (by rw [pva]; exact e2)]; exact sj
   refine w.bt j hj s ?_ ((jb k (.inl rfl) j hj e3 sb s).2 m2)
   exact (h.keepI ha hj (Ne.symm e2) (by omega) hv (.inr hr) sa s (fun q => e1 (q.2.trans na)) (fun q => by omega)).2 (by rw [ya]; exact m1)
theorem two_high {k a b : Nat} (hl : ∀ v, v < n → 0 < trC nx pv x y v) (w : Two n nx rk x y t k a b) (hk : k + 2 < n) (hr : rk b = k + 1) (h2 : a + 1 ≠ b) : Two n nx rk x y t (k + 1) a (b - 1) := by
 have hab := w.ab
 have hbn := w.bn
 have ha : a < n := by omega
 have hq : b - 1 < n := by omega
 have na : nx a = a + 1 := h.nxs a (by omega)
 have nq : nx (b - 1) = b := by rw [h.nxs (b - 1) (by omega)]; omega
 have pvb : pv b = b - 1 := by have := h.pvnx _ hq; rwa [nq] at this
 have a2 : k + 1 < rk (nx a) := Nat.lt_of_le_of_ne w.a2 fun e => h2 (by rw [← na]; exact h.rinj (h.nxl a ha) hbn (by omega))
 have h3 : b ≠ a := by omega
 have h1 : b ≠ nx a := by rw [na]; omega
 have sa : spa nx rk a k = true := spa_iff.2 (.inl ⟨w.a1, w.a2⟩)
 have sb : spa nx rk b k = true := spa_iff.2 (.inr ⟨w.b2, w.b1⟩)
 have sa' : spa nx rk a (k + 1) = true := spa_iff.2 (.inl ⟨by have := w.a1; omega, a2⟩)
 have yq : Yh nx x y (b - 1) (x b) = y b := by have := h.y_pv hbn; rwa [pvb] at this
 have aj : ∀ k', (k' = k ∨ k' = k + 1) → ∀ j, j < n → j ≠ a → spa nx rk a k' = true → spa nx rk j k' = true → (Yh nx x y a (mdl t k') < Yh nx x y j (mdl t k') ↔ Yh nx x y a (x b) < Yh nx x y j (x b)) := fun k' hk' j hj hja s1 s2 =>
  h.keepI ha hj (Ne.symm hja) (by omega) hbn (by omega) s1 s2 (fun q => h1 q.1) (fun q => h3 q.1)
 have lv : Yh nx x y a (x b) < y b := by have := (aj k (.inl rfl) b hbn h3 sa sb).1 w.lt; rwa [y_lo] at this
 have rn : rk (b - 1) ≠ k + 1 := fun e => by have := h.rinj hq hbn (by omega); omega
 rcases Nat.lt_or_gt_of_ne rn with g | g
 ·exfalso
  have sv : spa nx rk (b - 1) k = true := spa_iff.2 (.inl ⟨by omega, by rw [nq]; omega⟩)
  have l1 := (h.left_at (v := b) (k := k) hbn (hl _ hbn) (by omega)).1 hr sb (by rw [pvb]; exact sv)
  rw [pvb] at l1
  exact w.bt _ hq sv ((aj k (.inl rfl) (b - 1) hq (by omega) sa sv).2 (by rw [yq]; exact lv)) l1
 ·have sv : spa nx rk (b - 1) (k + 1) = true := spa_iff.2 (.inr ⟨by rw [nq]; omega, g⟩)
  have nsb : spa nx rk b (k + 1) = false := by
   cases q : spa nx rk b (k + 1) with
   | false => rfl
   | true => have := spa_iff.1 q; have := w.b2; omega
  have jq : ∀ j, j < n → j ≠ b → j ≠ b - 1 → spa nx rk j (k + 1) = true → (Yh nx x y j (mdl t (k + 1)) < Yh nx x y (b - 1) (mdl t (k + 1)) ↔ Yh nx x y j (x b) < y b) := fun j hj e1 e2 s => by
   have := h.keepI hj hq e2 hk hbn (.inl hr) s sv (fun q => h.pv_ne hbn (by rw [pvb, q.2, ← q.1])) (fun q => e1 q.1.symm)
   rw [yq] at this; exact this
  refine ⟨by omega, hq, by have := w.a1; omega, a2, g, by rw [nq]; omega, w.up, fun i hi hi2 => ?_, (jq a ha (by omega) (by omega) sa').2 lv, fun j hj sj l1 l2 => ?_⟩
  ·rcases Nat.lt_or_ge b i with q | q
   ·exact w.dn i q hi2
   ·rw [show i = b by omega]; have := w.b2; rw [h.nxs b (by omega)] at this; omega
  ·have e1 : j ≠ b - 1 := fun q => by rw [q] at l2; exact Rat.lt_irrefl l2
   have e2 : j ≠ b := fun q => by rw [q, nsb] at sj; cases sj
   have e3 : j ≠ a := fun q => by rw [q] at l1; exact Rat.lt_irrefl l1
   have m1 := (jq j hj e2 e1 sj).1 l2
   have m2 := (aj (k + 1) (.inr rfl) j hj e3 sa' sj).1 l1
   have s : spa nx rk j k = true := by rw [h.off_next hj hbn hr e2 (by rw [pvb]; exact e1)]; exact sj
   refine w.bt j hj s ((aj k (.inl rfl) j hj e3 sa s).2 m2) ?_
   have := h.keepI hj hbn e2 (by omega) hbn (.inr hr) s sb (fun q => e1 (by rw [← pvb, q.1, h.pvnx j hj])) (fun q => e2 q.1.symm)
   rw [y_lo] at this
   exact this.2 m1
theorem uni (hl : ∀ v, v < n → 0 < trC nx pv x y v) (h0 : rk 0 = 0) : Uni n rk := by
  have h3 := h.n3
  obtain ⟨b, hb⟩ := h.psi_all
  have hb0 : b = false := by
    have := h.turn_b hb (v := 0) (by omega) h0
    have := hl 0 (by omega)
    cases b with
    | false => rfl
    | true => simp only [if_true] at *; grind
  subst hb0
  have done : ∀ {k a b : Nat}, Two n nx rk x y t k a b → a + 1 = b → Uni n rk := fun {k a b} w e => by
    have := w.bn
    have na : nx a = a + 1 := h.nxs a (by omega)
    refine ⟨b, by omega, w.bn, fun i hi => ?_, fun i hi hi2 => ?_⟩
    · rcases Nat.lt_or_ge i a with q | q
      · exact w.up i q
      · rw [show i = a by omega]; have := w.a1; have := w.a2; rw [na] at this; omega
    · rcases Nat.lt_or_ge b i with q | q
      · exact w.dn i q hi2
      · rw [show i = b by omega]; have := w.b1; have := w.b2; rw [h.nxs b (by omega)] at this; omega
  have go : ∀ k, k + 1 < n → Uni n rk ∨ ∃ a b, Two n nx rk x y t k a b := by
    intro k
    induction k with
    | zero => exact fun _ => .inr ⟨_, _, h.two_zero hl h0⟩
    | succ k ih =>
      intro hk
      rcases ih (by omega) with u | ⟨a, b, w⟩
      · exact .inl u
      by_cases e : a + 1 = b
      · exact .inl (done w e)
      obtain ⟨v, hv, hr⟩ := h.sur (k + 1) (by omega)
      have := w.ab
      have := w.bn
      have na : nx a = a + 1 := h.nxs a (by omega)
      by_cases e1 : v = a + 1
      · subst e1; exact .inr ⟨_, _, h.two_low hl w hk hr e⟩
      · by_cases e2 : v = b
        · subst e2; exact .inr ⟨_, _, h.two_high hl w hk hr e⟩
        · exact .inr ⟨_, _, h.two_off hb hl w hk hv hr (by rw [na]; exact e1) e2⟩
  rcases go (n - 2) (by omega) with u | ⟨a, b, w⟩
  · exact u
  · have := w.ab
    have := w.bn
    have na : nx a = a + 1 := h.nxs a (by omega)
    refine done w (h.rinj (by omega) w.bn ?_)
    have a2 := w.a2
    have b1 := w.b1
    rw [na] at a2
    have := h.rkl (a + 1) (by omega)
    have := h.rkl b w.bn
    omega
end Pg
end
end Num.Sw
namespace Num
open Go Go.Proofs
def Cx (n : Nat) (c : Nat → V2) : Prop := ∀ i k, k % n ≠ i % n → k % n ≠ (i + 1) % n → 0 < cr (c i) (c (i + 1)) (c k)
abbrev xv (u v : V2) : Rat := u.1 * v.2 - u.2 * v.1
def dl (c : Nat → V2) (i : Nat) : V2 := (((c (i + 1)).1 - (c i).1), ((c (i + 1)).2 - (c i).2))
theorem chain_x {c : Nat → V2} {lo hi : Nat} (s : Rat) (hd : ∀ i, lo ≤ i → i < hi → 0 < s * (dl c i).1) (ht : ∀ i, lo ≤ i → i + 1 < hi → 0 < xv (dl c i) (dl c (i + 1))) :
    ∀ i d, lo ≤ i → i + d + 1 < hi → 0 < xv (dl c i) (dl c (i + d + 1)) := by
  intro i d hi0
  induction d with
  | zero => exact fun h => ht i hi0 h
  | succ d ih =>
    intro h
    have a := ih (by omega)
    have b := ht (i + d + 1) (by omega) h
    have d1 := hd i hi0 (by omega)
    have d2 := hd (i + d + 1) (by omega) (by omega)
    have d3 := hd (i + d + 1 + 1) (by omega) h
    show 0 < xv (dl c i) (dl c (i + d + 1 + 1))
    revert a b d1 d2 d3
    generalize dl c i = u
    generalize dl c (i + d + 1) = v
    generalize dl c (i + d + 1 + 1) = w
    intro a b d1 d2 d3
    have p1 := Rat.mul_pos d3 a
    have p2 := Rat.mul_pos d1 b
    have e : s * v.1 * xv u w = s * w.1 * xv u v + s * u.1 * xv v w := by unfold xv; grind
    refine Rat.not_le.1 fun g => ?_
    have := Rat.mul_nonneg (Rat.le_of_lt d2) (show 0 ≤ -xv u w by grind)
    grind
section chain
variable {c : Nat → V2} {lo hi : Nat} (hx : ∀ i d, lo ≤ i → i + d + 1 < hi → 0 < xv (dl c i) (dl c (i + d + 1)))
include hx
theorem chain_up : ∀ i d, lo ≤ i → i + d + 1 < hi → 0 < cr (c i) (c (i + 1)) (c (i + d + 2)) := by
  intro i d hi0
  induction d with
  | zero =>
    intro h
    have := hx i 0 hi0 h
    show 0 < cr (c i) (c (i + 1)) (c (i + 1 + 1))
    have e : cr (c i) (c (i + 1)) (c (i + 1 + 1)) = xv (dl c i) (dl c (i + 0 + 1)) := by unfold cr crs xv dl; simp only [Nat.add_zero]; grind
    rw [e]; exact this
  | succ d ih =>
    intro h
    have a := ih (by omega)
    have b := hx i (d + 1) hi0 h
    have e : cr (c i) (c (i + 1)) (c (i + (d + 1) + 2)) = cr (c i) (c (i + 1)) (c (i + d + 2)) + xv (dl c i) (dl c (i + (d + 1) + 1)) := by
      unfold cr crs xv dl
      rw [show i + (d + 1) + 2 = i + d + 2 + 1 by omega, show i + (d + 1) + 1 = i + d + 2 by omega]
      grind
    rw [e]; grind
theorem chain_dn : ∀ k d, lo ≤ k → k + d + 1 < hi → 0 < cr (c (k + d + 1)) (c (k + d + 1 + 1)) (c k) := by
  intro k d
  induction d generalizing k with
  | zero =>
    intro h0 h
    have := hx k 0 h0 h
    have e : cr (c (k + 0 + 1)) (c (k + 0 + 1 + 1)) (c k) = xv (dl c k) (dl c (k + 0 + 1)) := by unfold cr crs xv dl; simp only [Nat.add_zero]; grind
    rw [e]; exact this
  | succ d ih =>
    intro h0 h
    have a := ih (k + 1) (by omega) (by omega)
    have b := hx k (d + 1) h0 h
    have q : k + 1 + d + 1 = k + (d + 1) + 1 := by omega
    rw [q] at a
    have e : cr (c (k + (d + 1) + 1)) (c (k + (d + 1) + 1 + 1)) (c k) = cr (c (k + (d + 1) + 1)) (c (k + (d + 1) + 1 + 1)) (c (k + 1)) + xv (dl c k) (dl c (k + (d + 1) + 1)) := by
      unfold cr crs xv dl; grind
    rw [e]; grind
theorem chain_far {k : Nat} (h1 : lo < k) (h2 : k < hi) : 0 < cr (c lo) (c k) (c hi) := by
  -- the steps up to k, and those behind it
  have a : ∀ d j, lo + d < k → k ≤ j → j < hi → 0 < xv ((c (lo + d + 1)).1 - (c lo).1, (c (lo + d + 1)).2 - (c lo).2) (dl c j) := by
    intro d j
    induction d with
    | zero =>
      intro g1 g2 g3
      have := hx lo (j - lo - 1) (Nat.le_refl _) (by omega)
      rw [show lo + (j - lo - 1) + 1 = j by omega] at this
      exact this
    | succ d ih =>
      intro g1 g2 g3
      have q := ih (by omega) g2 g3
      have w := hx (lo + d + 1) (j - (lo + d + 1) - 1) (by omega) (by omega)
      rw [show lo + d + 1 + (j - (lo + d + 1) - 1) + 1 = j by omega] at w
      have e : xv ((c (lo + (d + 1) + 1)).1 - (c lo).1, (c (lo + (d + 1) + 1)).2 - (c lo).2) (dl c j) = xv ((c (lo + d + 1)).1 - (c lo).1, (c (lo + d + 1)).2 - (c lo).2) (dl c j) + xv (dl c (lo + d + 1)) (dl c j) := by
        unfold xv dl
        rw [show lo + (d + 1) + 1 = lo + d + 1 + 1 by omega]
        grind
      rw [e]; grind
  have a' : ∀ j, k ≤ j → j < hi → 0 < xv ((c k).1 - (c lo).1, (c k).2 - (c lo).2) (dl c j) := fun j g2 g3 => by
    have := a (k - lo - 1) j (by omega) g2 g3
    rwa [show lo + (k - lo - 1) + 1 = k by omega] at this
  have b : ∀ d, k + d < hi → 0 < xv ((c k).1 - (c lo).1, (c k).2 - (c lo).2) ((c (k + d + 1)).1 - (c k).1, (c (k + d + 1)).2 - (c k).2) := by
    intro d
    induction d with
    | zero => exact fun g => a' k (Nat.le_refl _) g
    | succ d ih =>
      intro g
      have q := ih (by omega)
      have w := a' (k + d + 1) (by omega) g
      have e : xv ((c k).1 - (c lo).1, (c k).2 - (c lo).2) ((c (k + (d + 1) + 1)).1 - (c k).1, (c (k + (d + 1) + 1)).2 - (c k).2) = xv ((c k).1 - (c lo).1, (c k).2 - (c lo).2) ((c (k + d + 1)).1 - (c k).1, (c (k + d + 1)).2 - (c k).2) + xv ((c k).1 - (c lo).1, (c k).2 - (c lo).2) (dl c (k + d + 1)) := by
        unfold xv dl
        rw [show k + (d + 1) + 1 = k + d + 1 + 1 by omega]
        grind
      rw [e]; grind
  have r := b (hi - k - 1) (by omega)
  rw [show k + (hi - k - 1) + 1 = hi by omega] at r
  have e : cr (c lo) (c k) (c hi) = xv ((c k).1 - (c lo).1, (c k).2 - (c lo).2) ((c hi).1 - (c k).1, (c hi).2 - (c k).2) := by unfold cr crs xv; grind
  rw [e]; exact r
end chain
theorem cx_uni {n m : Nat} {c : Nat → V2} (hp : Per n c) (hm : 0 < m) (hmn : m < n) (up : ∀ i, i < m → (c i).1 < (c (i + 1)).1) (dn : ∀ i, m ≤ i → i < n → (c (i + 1)).1 < (c i).1) (ht : ∀ i, 0 < cr (c i) (c (i + 1)) (c (i + 2))) : Cx n c := by
 have tt : ∀ i, 0 < xv (dl c i) (dl c (i + 1)) := fun i => by
  have := ht i
  have e : cr (c i) (c (i + 1)) (c (i + 2)) = xv (dl c i) (dl c (i + 1)) := by unfold cr crs xv dl; grind
  rwa [e] at this
 have lo := chain_x (c := c) (lo := 0) (hi := m) 1 (fun i _ hi => by have := up i hi; unfold dl; grind) fun i _ _ => tt i
 have hi := chain_x (c := c) (lo := m) (hi := n) (-1) (fun i h1 h2 => by have := dn i h1 h2; unfold dl; grind) fun i _ _ => tt i
 have cn : c n = c 0 := by rw [← hp n, Nat.mod_self]
 have xup : ∀ d i, i + d + 1 ≤ m → (c i).1 < (c (i + d + 1)).1 := by
  intro d i
  induction d with
  | zero => exact fun h => up i (by omega)
  | succ d ih => exact fun h => by have a := ih (by omega); have b := up (i + d + 1) (by omega); rw [show i + (d + 1) + 1 = i + d + 1 + 1 by omega]; grind
 have xdn : ∀ d i, m ≤ i → i + d + 1 ≤ n → (c (i + d + 1)).1 < (c i).1 := by
  intro d i h0
  induction d with
  | zero => exact fun h => dn i h0 (by omega)
  | succ d ih => exact fun h => by have a := ih (by omega); have b := dn (i + d + 1) (by omega) (by omega); rw [show i + (d + 1) + 1 = i + d + 1 + 1 by omega]; grind
 have x0m : (c 0).1 < (c m).1 := by have := xup (m - 1) 0 (by omega); rwa [show 0 + (m - 1) + 1 = m by omega] at this
 -- two corners of one chain
 have low : ∀ i k, i < m → k ≤ m → k ≠ i → k ≠ i + 1 → 0 < cr (c i) (c (i + 1)) (c k) := fun i k h1 h2 h3 h4 => by
  rcases Nat.lt_or_gt_of_ne h3 with g | g
  ·have := chain_dn lo k (i - k - 1) (Nat.zero_le _) (by omega)
   rwa [show k + (i - k - 1) + 1 = i by omega] at this
  ·have := chain_up lo i (k - i - 2) (Nat.zero_le _) (by omega)
   rwa [show i + (k - i - 2) + 2 = k by omega] at this
 have high : ∀ i k, m ≤ i → i < n → m ≤ k → k ≤ n → k ≠ i → k ≠ i + 1 → 0 < cr (c i) (c (i + 1)) (c k) := fun i k h0 h1 h2 h2' h3 h4 => by
  rcases Nat.lt_or_gt_of_ne h3 with g | g
  ·have := chain_dn hi k (i - k - 1) h2 (by omega)
   rwa [show k + (i - k - 1) + 1 = i by omega] at this
  ·have := chain_up hi i (k - i - 2) h0 (by omega)
   rwa [show i + (k - i - 2) + 2 = k by omega] at this
 have id1 : ∀ a b p : V2, ((c m).1 - (c 0).1) * cr a b p = ((c m).1 - p.1) * cr a b (c 0) + (p.1 - (c 0).1) * cr a b (c m) + (b.1 - a.1) * cr (c 0) (c m) p := fun a b p => by unfold cr crs; grind
 have fin : ∀ a b p : V2, (c 0).1 < p.1 → p.1 < (c m).1 → 0 ≤ cr a b (c 0) → 0 ≤ cr a b (c m) → 0 < (b.1 - a.1) * cr (c 0) (c m) p → 0 < cr a b p := fun a b p h1 h2 h3 h4 h5 => by
  have e := id1 a b p
  have p1 := Rat.mul_nonneg (show 0 ≤ (c m).1 - p.1 by grind) h3
  have p2 := Rat.mul_nonneg (show 0 ≤ p.1 - (c 0).1 by grind) h4
  refine Rat.not_le.1 fun g => ?_
  have := Rat.mul_nonneg (show 0 ≤ (c m).1 - (c 0).1 by grind) (show 0 ≤ -cr a b p by grind)
  grind
 have z1 : ∀ a b : V2, cr a b a = 0 := cr_left
 have z2 : ∀ a b : V2, cr a b b = 0 := cr_right
 have all : ∀ i k, i < n → k < n → k ≠ i → k ≠ (i + 1) % n → 0 < cr (c i) (c (i + 1)) (c k) := fun i k h1 h2 h3 h4 => by
  rcases Nat.lt_or_ge i m with g | g
  ·rw [Nat.mod_eq_of_lt (by omega)] at h4
   rcases Nat.lt_or_ge m k with g2 | g2
   ·have far := chain_far hi g2 h2
    rw [cn] at far
    have xk1 : (c k).1 < (c m).1 := by have := xdn (k - m - 1) m (Nat.le_refl _) (by omega); rwa [show m + (k - m - 1) + 1 = k by omega] at this
    have xk0 : (c 0).1 < (c k).1 := by have := xdn (n - k - 1) k (by omega) (by omega); rwa [show k + (n - k - 1) + 1 = n by omega, cn] at this
    refine fin _ _ _ xk0 xk1 ?_ ?_ (Rat.mul_pos (by have := up i g; grind) ?_)
    ·by_cases e : i = 0
     ·rw [e, z1]; exact Rat.le_refl
     ·exact Rat.le_of_lt (low i 0 g (by omega) (by omega) (by omega))
    ·by_cases e : m = i + 1
     ·rw [e, z2]; exact Rat.le_refl
     ·exact Rat.le_of_lt (low i m g (Nat.le_refl _) (by omega) (by omega))
    ·have e : cr (c 0) (c m) (c k) = cr (c m) (c k) (c 0) := by unfold cr crs; grind
     rw [e]; exact far
   ·exact low i k g g2 h3 h4
  ·by_cases e0 : k = 0
   ·subst e0
    have : i + 1 ≠ n := fun e => h4 (by rw [e, Nat.mod_self])
    have := high i n g h1 (by omega) (Nat.le_refl _) (by omega) (by omega)
    rwa [cn] at this
   ·have h4' : k ≠ i + 1 := fun e => h4 (by rw [← e, Nat.mod_eq_of_lt h2])
    rcases Nat.lt_or_ge k m with g2 | g2
    ·have far := chain_far lo (show 0 < k by omega) g2
     have xk1 : (c k).1 < (c m).1 := by have := xup (m - k - 1) k (by omega); rwa [show k + (m - k - 1) + 1 = m by omega] at this
     have xk0 : (c 0).1 < (c k).1 := by have := xup (k - 1) 0 (by omega); rwa [show 0 + (k - 1) + 1 = k by omega] at this
     refine fin _ _ _ xk0 xk1 ?_ ?_ ?_
     ·rw [← cn]
      by_cases e : n = i + 1
      ·rw [e, z2]; exact Rat.le_refl
      ·exact Rat.le_of_lt (high i n g h1 (by omega) (Nat.le_refl _) (by omega) (by omega))
     ·by_cases e : m = i
      ·rw [e, z1]; exact Rat.le_refl
      ·exact Rat.le_of_lt (high i m g h1 (Nat.le_refl _) (by omega) (by omega) (by omega))
     ·have e : cr (c 0) (c m) (c k) = -cr (c 0) (c k) (c m) := by unfold cr crs; grind
      have := Rat.mul_pos (show 0 < (c i).1 - (c (i + 1)).1 by have := dn i g h1; grind) far
      rw [e]; grind
    ·exact high i k g h1 g2 (by omega) h3 h4'
 intro i k h1 h2
 have hn : 0 < n := by omega
 have := all (i % n) (k % n) (Nat.mod_lt _ hn) (Nat.mod_lt _ hn) h1 (by rw [Nat.mod_add_mod]; exact h2)
 rw [hp k, hp i, per_succ hp] at this
 exact this
theorem cr_shear (e : Rat) (a b p : V2) : cr (a.1 + e * a.2, a.2) (b.1 + e * b.2, b.2) (p.1 + e * p.2, p.2) = cr a b p := by unfold cr crs; grind
theorem cx_shift {n : Nat} {c : Nat → V2} {k : Nat} (h : Cx n fun i => c (i + k)) (hp : Per n c) (hn : 0 < n) : Cx n c := by
 intro i j h1 h2
 obtain ⟨u, hu⟩ : ∃ u, u + k % n = n := ⟨n - k % n, by have := Nat.mod_lt k hn; omega⟩
 have sh : ∀ i, c (i + u + k) = c i := fun i => by
  rw [← hp (i + u + k), ← Nat.add_mod_mod, Nat.add_assoc, hu, Nat.add_mod_right, hp]
 have := h (i + u) (j + u) (fun e => h1 (mod_shift.1 e)) (fun e => h2 (mod_shift.1 (by rw [e]; congr 1; omega)))
 simp only at this
 rw [sh, sh, show i + u + 1 + k = (i + 1) + u + k by omega, sh] at this
 exact this
theorem sim_cx {n : Nat} {c : Nat → V2} (hp : Per n c) (hs : Sim n c) (ht : Trn n c) : Cx n c := by
  have n3 : 3 ≤ n := hs.1
  -- begin at the leftmost corner
  obtain ⟨e, he⟩ := Sw.sim_sh hs
  obtain ⟨rk, t, hg⟩ := Sw.sim_pge hp hs he
  obtain ⟨v, hv, hr⟩ := hg.sur 0 (by omega)
  have least : ∀ i, i < n → i ≠ v → (c v).1 + e * (c v).2 < (c i).1 + e * (c i).2 := fun i hi hiv => by
    have := hg.tm (rk v) (rk i) (by have : rk i ≠ rk v := fun q => hiv (hg.rinj hi hv q); omega) (hg.rkl i hi)
    rwa [hg.trk v hv, hg.trk i hi] at this
  obtain ⟨d, hd⟩ : ∃ d : Nat → V2, d = fun i => c (i + v) := ⟨_, rfl⟩
  have hdi : ∀ i, d i = c (i + v) := fun i => by rw [hd]
  have hp' : Per n d := fun i => by rw [hdi, hdi, ← hp (i % n + v), Nat.mod_add_mod, hp]
  have hs' : Sim n d := by rw [hd]; exact sim_shift v hs
  have ht' : Trn n d := fun i => by rw [hd, trn_shift v (by omega)]; exact ht _
  have mm : ∀ i, c (i + v) = c ((i + v) % n) := fun i => (hp _).symm
  have ml : ∀ i, (i + v) % n < n := fun i => Nat.mod_lt _ (by omega)
  have he' : ∀ i j, i < n → j < n → i ≠ j → (d i).1 + e * (d i).2 ≠ (d j).1 + e * (d j).2 := fun i j hi hj hij => by
    rw [hdi, hdi, mm i, mm j]
    exact he _ _ (ml i) (ml j) fun q => hij (by have := mod_shift.1 q; rwa [Nat.mod_eq_of_lt hi, Nat.mod_eq_of_lt hj] at this)
  obtain ⟨rk', t', hg'⟩ := Sw.sim_pge hp' hs' he'
  have lt : ∀ a b, a < n → b < n → rk' a < rk' b → (d a).1 + e * (d a).2 < (d b).1 + e * (d b).2 := fun a b ha hb g => by
    have := hg'.tm _ _ g (hg'.rkl b hb)
    rwa [hg'.trk a ha, hg'.trk b hb] at this
  have h0 : rk' 0 = 0 := by
    obtain ⟨u, hu, hur⟩ := hg'.sur 0 (by omega)
    by_cases q : u = 0
    · rw [q] at hur; exact hur
    · have := lt u 0 hu (by omega) (by have : rk' 0 ≠ rk' u := fun w => q (hg'.rinj hu (by omega) w.symm); omega)
      rw [hdi, hdi, mm u, Nat.zero_add] at this
      have := least _ (ml u) fun w => q (by
        have : (u + v) % n = (0 + v) % n := by rw [w, Nat.zero_add, Nat.mod_eq_of_lt hv]
        have := mod_shift.1 this
        rwa [Nat.mod_eq_of_lt hu, Nat.zero_mod] at this)
      grind
  have hl : ∀ i, i < n → 0 < Sw.trC (Sw.nxI n) (Sw.pvI n) (fun i => (d i).1 + e * (d i).2) (fun i => (d i).2) i := fun i hi => by
    have q : Sw.trC (Sw.nxI n) (Sw.pvI n) (fun i => (d i).1 + e * (d i).2) (fun i => (d i).2) i = cr (d (i + n - 1)) (d i) (d (i + 1)) := by
      unfold Sw.trC
      show ((d i).1 + e * (d i).2 - ((d (Sw.pvI n i)).1 + e * (d (Sw.pvI n i)).2)) * ((d (Sw.nxI n i)).2 - (d (Sw.pvI n i)).2) - ((d i).2 - (d (Sw.pvI n i)).2) * ((d (Sw.nxI n i)).1 + e * (d (Sw.nxI n i)).2 - ((d (Sw.pvI n i)).1 + e * (d (Sw.pvI n i)).2)) = _
      rw [Sw.c_nx hp' hi, Sw.c_pv hp' hi]
      unfold cr crs
      grind
    rw [q]
    have : tri (cr (d (i + n - 1)) (d i) (d (i + 1))) 0 = 1 := ht' i
    exact tri_pos.1 (by rw [this]; decide)
  obtain ⟨m, m0, mn, up, dn⟩ := hg'.uni hl h0
  have tn : ∀ i, 0 < cr (d i) (d (i + 1)) (d (i + 2)) := fun i => by
    have := ht' (i + 1)
    unfold trn at this
    rw [show i + 1 + n - 1 = i + n by omega, show d (i + n) = d i by rw [← hp' (i + n), Nat.add_mod_right, hp']] at this
    exact tri_pos.1 (by rw [this]; decide)
  refine cx_shift (k := v) ?_ hp (by omega)
  rw [← hd]
  intro i k h1 h2
  have := cx_uni (n := n) (m := m) (c := fun i => ((d i).1 + e * (d i).2, (d i).2)) (fun i => by
    show ((d (i % n)).1 + e * (d (i % n)).2, (d (i % n)).2) = ((d i).1 + e * (d i).2, (d i).2)
    rw [hp']) m0 mn (fun i hi => lt _ _ (by omega) (by omega) (up i hi)) (fun i h1 h2 => by
      show (d (i + 1)).1 + e * (d (i + 1)).2 < (d i).1 + e * (d i).2
      by_cases q : i + 1 = n
      · rw [q, ← hp' n, Nat.mod_self]
        exact lt 0 i (by omega) h2 (by have : rk' i ≠ rk' 0 := fun w => by have := hg'.rinj h2 (by omega) w; omega
                                       omega)
      · exact lt _ _ (by omega) h2 (dn i h1 (by omega))) (fun i => by simp only [cr_shear]; exact tn i) i k h1 h2
  simpa only [cr_shear] using this
theorem cut_left {u v w k q : V2} (h1 : 0 < cr u v k) (h2 : 0 < cr v w k) (h3 : 0 ≤ cr k q u) (h4 : 0 ≤ cr k q v) (h5 : 0 < cr k q w) : 0 < cr u w k := by
 have e : cr k q u * cr v w k - cr k q v * cr u w k + cr k q w * cr u v k = 0 := by unfold cr crs; grind
 refine Rat.not_le.1 fun g => ?_
 have a := Rat.mul_nonneg h3 (Rat.le_of_lt h2)
 have b := Rat.mul_nonneg h4 (show 0 ≤ -cr u w k by grind)
 have c := Rat.mul_pos h5 h1
 grind
theorem cx_cut {m : List V2} {p : V2} (hm : 3 ≤ m.length) (h : Cx (m.length + 1) (cor (m ++ [p]))) : Cx m.length (cor m) := by
 have hg : ∀ i, i < m.length → cor (m ++ [p]) i = cor m i := fun i hi => cor_app hi
 have hl := cor_app1 m p
 have hw := cor_app2 p (show 0 < m.length by omega)
 have hp := cor_per m
 have md : ∀ i, i ≤ m.length → i % (m.length + 1) = i := fun i hi => Nat.mod_eq_of_lt (by omega)
 have all : ∀ i k, i < m.length → k < m.length → k ≠ i → k ≠ (i + 1) % m.length → 0 < cr (cor m i) (cor m (i + 1)) (cor m k) := fun i k h1 h2 h3 h4 => by
  by_cases e : i + 1 = m.length
  ·rw [e, Nat.mod_self] at h4
   have c1 := h i k (by rw [md k (by omega), md i (by omega)]; exact h3) (by rw [md k (by omega), md (i + 1) (by omega)]; omega)
   have c2 := h m.length k (by rw [md k (by omega), md _ (Nat.le_refl _)]; omega) (by rw [md k (by omega), Nat.mod_self]; exact h4)
   rw [hw, hl, hg k h2] at c2
   rw [hg i h1, hg k h2, e, hl] at c1
   have c3 := h k i (by rw [md k (by omega), md i (by omega)]; exact Ne.symm h3)
   have c4 := h k m.length (by rw [md k (by omega), md _ (Nat.le_refl _)]; omega) (by rw [md (k + 1) (by omega), md _ (Nat.le_refl _)]; omega)
   have c5 := h k 0 (by rw [md k (by omega), Nat.zero_mod]; exact Ne.symm h4) (by rw [md (k + 1) (by omega), Nat.zero_mod]; omega)
   rw [hg k h2, hg (k + 1) (by omega)] at c3 c4 c5
   rw [hl] at c4
   rw [hg 0 (by omega)] at c5
   rw [hg i h1] at c3
   rw [e, show cor m m.length = cor m 0 from cor_wrap]
   refine cut_left (v := p) (q := cor m (k + 1)) c1 c2 ?_ (Rat.le_of_lt c4) c5
   by_cases e2 : i = k + 1
   ·rw [e2]
    have : cr (cor m k) (cor m (k + 1)) (cor m (k + 1)) = 0 := cr_right _ _
    rw [this]; exact Rat.le_refl
   ·exact Rat.le_of_lt (c3 (by rw [md (k + 1) (by omega), md i (by omega)]; exact e2))
  ·have := h i k (by rw [md k (by omega), md i (by omega)]; exact h3) (by rw [md k (by omega), md (i + 1) (by omega)]; rw [Nat.mod_eq_of_lt (by omega)] at h4; exact h4)
   rwa [hg i h1, hg (i + 1) (by omega), hg k h2] at this
 intro i k h1 h2
 have hn : 0 < m.length := by omega
 have := all (i % m.length) (k % m.length) (Nat.mod_lt _ hn) (Nat.mod_lt _ hn) h1 (by rw [Nat.mod_add_mod]; exact h2)
 rw [hp k, hp i, per_succ hp] at this
 exact this
theorem cr_at (a b c d : V2) (s : Rat) : cr a b (atP c d s) = (1 - s) * cr a b c + s * cr a b d := by unfold cr crs atP; grind
theorem cx_cvx {n : Nat} {c : Nat → V2} (hp : Per n c) (n3 : 3 ≤ n) (h : Cx n c) : Trn n c ∧ Sim n c := by
 have nx : ∀ {i j : Nat}, (i + 1) % n = j % n → c (i + 1) = c j := fun {i j} e => by rw [← hp (i + 1), e, hp]
 have self : ∀ i, i % n ≠ (i + 1) % n := fun i e => by
  have e2 : (0 + i) % n = (1 + i) % n := by rw [Nat.zero_add, Nat.add_comm 1 i]; exact e
  have := mod_shift.1 e2
  rw [Nat.zero_mod, Nat.mod_eq_of_lt (by omega)] at this; omega
 have self2 : ∀ i, (i + 2) % n ≠ i % n := fun i e => by
  have e2 : (2 + i) % n = (0 + i) % n := by rw [Nat.zero_add, Nat.add_comm 2 i]; exact e
  have := mod_shift.1 e2
  rw [Nat.zero_mod, Nat.mod_eq_of_lt (by omega)] at this; omega
 have pos : ∀ i, 0 < cr (c i) (c (i + 1)) (c (i + 2)) := fun i => h i (i + 2) (self2 i) (Ne.symm (self (i + 1)))
 -- two edges, one behind the other
 have next : ∀ i, kin (c i) (c (i + 1)) (c (i + 1)) (c (i + 2)) = 1 := fun i => kin_one.2 ⟨c (i + 1), ⟨on_right _ _, on_left _ _⟩, fun q ⟨q1, q2⟩ => by
  obtain ⟨s, s0, s1, rfl⟩ := on_par.1 q2
  have z := q1.1
  rw [cr_at, cr_right] at z
  have := pos i
  have s00 : s = 0 := by
   have : cr (c i) (c (i + 1)) (c (i + 2)) * s = 0 := by grind
   exact mz this (by grind)
  rw [s00]; exact at_zero _ _⟩
 refine ⟨fun i => ?_, n3, fun i j hij => ⟨fun e => ?_, ?_⟩⟩
 ·have a := pos (i + n - 1)
  rw [show i + n - 1 + 1 = i + n by omega, show i + n - 1 + 2 = i + 1 + n by omega, show c (i + n) = c i by rw [← hp (i + n), Nat.add_mod_right, hp], show c (i + 1 + n) = c (i + 1) by rw [← hp (i + 1 + n), Nat.add_mod_right, hp]] at a
  show tri (cr (c (i + n - 1)) (c i) (c (i + 1))) 0 = 1
  unfold tri
  rw [if_neg (by grind), if_pos a]
 ·by_cases g : j % n = (i + 1) % n
  ·have a := pos i
   rw [nx g.symm, ← e] at a
   have : cr (c i) (c i) (c (i + 2)) = 0 := by unfold cr crs; grind
   rw [this] at a; exact absurd a Rat.lt_irrefl
  ·have a := h i j (Ne.symm hij) g
   rw [← e, cr_left] at a; exact absurd a Rat.lt_irrefl
 ·by_cases g1 : (i + 1) % n = j % n
  ·rw [if_pos (.inl g1)]
   have a := next i
   rw [show c (i + 2) = c (j + 1) by rw [← hp (i + 2), ← hp (j + 1), show i + 2 = i + 1 + 1 by omega, ← Nat.mod_add_mod, g1, Nat.mod_add_mod]] at a
   rw [← nx g1]; exact a
  ·by_cases g2 : (j + 1) % n = i % n
   ·rw [if_pos (.inr g2), kin_comm]
    have a := next j
    rw [show c (j + 2) = c (i + 1) by rw [← hp (j + 2), ← hp (i + 1), show j + 2 = j + 1 + 1 by omega, ← Nat.mod_add_mod, g2, Nat.mod_add_mod]] at a
    rw [← nx g2]; exact a
   ·rw [if_neg (fun q => q.elim g1 g2)]
    refine kin_zero.2 fun p ⟨q1, q2⟩ => ?_
    obtain ⟨s, s0, s1, rfl⟩ := on_par.1 q2
    have z := q1.1
    rw [cr_at] at z
    have a := h i j (Ne.symm hij) (Ne.symm g1)
    have b := h i (j + 1) g2 (fun q => hij (mod_shift.1 q).symm)
    by_cases e : s = 0
    ·rw [e] at z; grind
    ·have p1 := Rat.mul_pos (show 0 < s by grind) b
     have p2 := Rat.mul_nonneg (show 0 ≤ 1 - s by grind) (Rat.le_of_lt a)
     grind
theorem cvx_cx {l : List V2} (h : cvxB l = true) : Cx l.length (cor l) := sim_cx (cor_per l) (cvx_iff.1 h).2 (cvx_iff.1 h).1
theorem cvx_less {l : List V2} {K : Nat} (hK : K < l.length) (h : cvxB l = true) : cvxB (l.take K ++ l.drop (K + 1)) = decide (3 < l.length) := by
 have e1 : cvxB (l.take K ++ l.drop (K + 1)) = cvxB (l.drop (K + 1) ++ l.take K) := by
  have := cvx_rot (l := l.take K ++ l.drop (K + 1)) (k := K) (by rw [List.length_append, List.length_take, List.length_drop]; omega)
  rw [← this, List.drop_left' (by rw [List.length_take]; omega), List.take_left' (by rw [List.length_take]; omega)]
 rw [e1]
 obtain ⟨m, hm⟩ : ∃ m, m = l.drop (K + 1) ++ l.take K := ⟨_, rfl⟩
 have hml : m.length + 1 = l.length := by rw [hm, List.length_append, List.length_take, List.length_drop]; omega
 rw [← hm]
 by_cases g : 3 < l.length
 ·rw [decide_eq_true g]
  have r : cvxB (m ++ [l[K]]) = true := by
   rw [← h, ← cvx_rot (l := l) (k := K + 1) (by omega), hm, List.append_assoc, show l.take K ++ [l[K]] = l.take (K + 1) by rw [List.take_add_one, List.getElem?_eq_getElem hK]; rfl]
  have c := cvx_cx r
  rw [List.length_append, List.length_singleton] at c
  have := cx_cvx (cor_per m) (by omega) (cx_cut (by omega) c)
  exact cvx_iff.2 this
 ·rw [decide_eq_false g]
  cases q : cvxB m with
  | false => rfl
  | true => have := (cvx_iff.1 q).2.1; omega
end Num
