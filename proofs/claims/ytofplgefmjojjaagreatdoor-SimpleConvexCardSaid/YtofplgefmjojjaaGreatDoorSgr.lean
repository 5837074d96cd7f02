/- A simple polygon's area: told by slabs, of the sign of its leftmost corner's turn. Plain facts. -/
import Derived.Test.YtofplgefmjojjaaGreatDoorSgq
namespace Num.Sw
open Go Go.Proofs
def cnt (S : Nat → Bool) : Nat → Nat
 | 0 => 0
 | n + 1 => cnt S n + (if S n then 1 else 0)
section
variable {n : Nat} {nx pv rk : Nat → Nat} {x y t : Nat → Rat}
def trC (nx pv : Nat → Nat) (x y : Nat → Rat) (v : Nat) : Rat := (x v - x (pv v)) * (y (nx v) - y (pv v)) - (y v - y (pv v)) * (x (nx v) - x (pv v))
namespace Pg
variable (h : Pg n nx pv rk x y t)
include h
theorem turn_b {b : Bool} (hb : ∀ i k, i < n → k + 1 < n → spa nx rk i k = true → psi n nx rk x y t i k = b) {v : Nat} (hv : v < n) (hr : rk v = 0) : if b then trC nx pv x y v < 0 else 0 < trC nx pv x y v := by
  have h3 := h.n3
  have hp := h.pvl v hv
  have hnl := h.nxl v hv
  have np := h.nxpv v hv
  have z1 : 0 < rk (pv v) := Nat.pos_of_ne_zero fun g => h.pv_ne hv (h.rinj hp hv (by omega))
  have z2 : 0 < rk (nx v) := Nat.pos_of_ne_zero fun g => h.ne1 v hv (h.rinj hnl hv (by omega))
  have s1 : spa nx rk (pv v) 0 = true := spa_iff.2 (.inr ⟨by rw [np]; omega, z1⟩)
  have s2 : spa nx rk v 0 = true := spa_iff.2 (.inl ⟨by omega, z2⟩)
  have p := hb (pv v) 0 hp (by omega) s1
  unfold psi at p
  rw [h.par_at hv (.inr ⟨rfl, rfl⟩) (by omega) (.inl hr) s1, s2, xs_none fun j hj => ?_, show lft rk (pv v) 0 = false from decide_eq_false (by omega)] at p
  · have hm := h.mid_in (k := 0) (by omega)
    have ne := h.no_eq hp hv (h.pv_ne hv) (by omega) s1 s2 hm.1 hm.2
    have xv : t 0 = x v := by rw [← hr]; exact h.trk v hv
    have xp : x v < x (pv v) := by rw [← xv, ← h.trk _ hp]; exact h.tm _ _ z1 (h.rkl _ hp)
    have xn : x v < x (nx v) := by rw [← xv, ← h.trk _ hnl]; exact h.tm _ _ z2 (h.rkl _ hnl)
    obtain ⟨m, hmd⟩ : ∃ m, m = mdl t 0 := ⟨_, rfl⟩
    rw [← hmd] at p ne hm
    rw [xv] at hm
    have hm1 := hm.1
    unfold Yh at p ne
    rw [np] at p ne
    obtain ⟨sp, hsp⟩ : ∃ s, s = (y v - y (pv v)) / (x v - x (pv v)) := ⟨_, rfl⟩
    obtain ⟨sn, hsn⟩ : ∃ s, s = (y (nx v) - y v) / (x (nx v) - x v) := ⟨_, rfl⟩
    have e1 : sp * (x v - x (pv v)) = y v - y (pv v) := by rw [hsp]; exact Rat.div_mul_cancel (by grind)
    have e2 : sn * (x (nx v) - x v) = y (nx v) - y v := by rw [hsn]; exact Rat.div_mul_cancel (by grind)
    rw [← hsp, ← hsn] at p ne
    have hc : trC nx pv x y v = (x (pv v) - x v) * (x (nx v) - x v) * (sp - sn) := by
      unfold trC
      have a1 : y (pv v) = y v - sp * (x v - x (pv v)) := by grind
      have a2 : y (nx v) = y v + sn * (x (nx v) - x v) := by grind
      rw [a1, a2]; grind
    have q1 : y (pv v) + sp * (m - x (pv v)) = y v + sp * (m - x v) := by grind
    rw [q1] at p ne
    have pp := Rat.mul_pos (show 0 < x (pv v) - x v by grind) (show 0 < x (nx v) - x v by grind)
    have p' : decide (y v + sp * (m - x v) < y v + sn * (m - x v)) = b := by simpa using p
    rw [hc]
    cases b with
    | true =>
      have g := of_decide_eq_true p'
      have : sp < sn := Rat.not_le.1 fun hh => by
        have := Rat.mul_nonneg (show 0 ≤ sp - sn by grind) (show 0 ≤ m - x v by grind); grind
      have := Rat.mul_pos pp (show 0 < sn - sp by grind)
      simp only [if_true]; grind
    | false =>
      have g := of_decide_eq_false p'
      have : sn < sp := Rat.not_le.1 fun hh => by
        by_cases k : sp = sn
        · rw [k] at ne; exact ne rfl
        · have := Rat.mul_pos (show 0 < sn - sp by grind) (show 0 < m - x v by grind); grind
      have := Rat.mul_pos pp (show 0 < sp - sn by grind)
      simpa using this
  · by_cases e1 : j = v
    · simp [e1]
    · by_cases e2 : j = pv v
      · simp [e2]
      · have : spa nx rk j 0 = false := by
          cases g : spa nx rk j 0 with
          | false => rfl
          | true =>
            rcases spa_iff.1 g with ⟨a, _⟩ | ⟨a, _⟩
            · exact absurd (h.rinj hj hv (by omega)) e1
            · exact absurd (by rw [← h.rinj (h.nxl j hj) hv (by omega), h.pvnx j hj]) e2
        rw [this]; simp
end Pg
end
end Num.Sw
