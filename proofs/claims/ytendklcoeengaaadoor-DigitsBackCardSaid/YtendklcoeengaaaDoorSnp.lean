/- straitref03.Div: bit by bit. -/
import Derived.Test.YtendklcoeengaaaDoorSnk
namespace Go.Proofs
open Go Go.Sv Num
variable {G : Imm}
theorem bitI_and32 {x y : Nat} (hx : x < 4294967296) (hy : y < 4294967296) : bitI .and .u32 x y = ((x &&& y : Nat) : Int) := by
  have h : x &&& y < 2 ^ 32 := Nat.and_lt_two_pow _ (by simpa using hy)
  have e1 : (BitVec.ofInt 32 (x : Int)).toNat = x := by simp; omega
  have e2 : (BitVec.ofInt 32 (y : Int)).toNat = y := by simp; omega
  show IntKind.u32.wrap ((BitVec.ofInt 32 (x : Int) &&& BitVec.ofInt 32 (y : Int)).toNat : Nat) = _
  rw [BitVec.toNat_and, e1, e2, wrap_u32 (by omega) (by simp at h; omega)]
theorem p32 {s : Nat} (hs : s < 32) : 4294967296 = 2 ^ s * (2 * 2 ^ (31 - s)) := by
  rw [← Nat.pow_succ', ← Nat.pow_add, show s + (31 - s).succ = 32 by omega]
theorem bit_limb {a : List Nat} (ha : Lim a) (p : Nat) : limb a (p / 32) / 2 ^ (p % 32) % 2 = val a / 2 ^ p % 2 := by
  have hs : p % 32 < 32 := Nat.mod_lt _ (by decide)
  rw [limb_digit ha, two_pow_split p, ← Nat.div_div_eq_div_mul]
  generalize val a / 4294967296 ^ (p / 32) = y
  rw [p32 hs, Nat.mod_mul_right_div_self, Nat.mod_mul_right_mod]
theorem low_limb {q : List Nat} (hq : Lim q) {Q p : Nat} (h : val q = Q * 2 ^ (p + 1)) : limb q (p / 32) % 2 ^ (p % 32 + 1) = 0 ∧ limb q (p / 32) + 2 ^ (p % 32) < 4294967296 := by
  have hs : p % 32 < 32 := Nat.mod_lt _ (by decide)
  have hp : 0 < 4294967296 ^ (p / 32) := Nat.pow_pos (by decide)
  have e0 : 4294967296 = 2 ^ (p % 32 + 1) * 2 ^ (31 - p % 32) := by rw [← Nat.pow_add, show p % 32 + 1 + (31 - p % 32) = 32 by omega]
  have e1 : limb q (p / 32) = 2 ^ (p % 32 + 1) * (Q % 2 ^ (31 - p % 32)) := by
    rw [limb_digit hq, h, Nat.pow_succ, two_pow_split p, show Q * (4294967296 ^ (p / 32) * 2 ^ (p % 32) * 2) = 4294967296 ^ (p / 32) * (2 ^ (p % 32 + 1) * Q) by rw [Nat.pow_succ]; ac_rfl, Nat.mul_div_cancel_left _ hp, e0, Nat.mul_mod_mul_left]
  refine ⟨by rw [e1, Nat.mul_mod_right], ?_⟩
  have h1 : Q % 2 ^ (31 - p % 32) + 1 ≤ 2 ^ (31 - p % 32) := Nat.mod_lt _ (Nat.two_pow_pos _)
  have h2 := Nat.mul_le_mul_left (2 ^ (p % 32 + 1)) h1
  rw [← e0, Nat.mul_add, ← e1] at h2
  have h3 : 2 ^ (p % 32) < 2 ^ (p % 32 + 1) := Nat.pow_lt_pow_right (by decide) (by omega)
  omega
theorem rdiv_step {X X' n bt : Nat} (hn : 0 < n) (hX : X' = 2 * X + bt) (hb : bt < 2) :
    (2 * (X % n) + bt < n → X' / n = 2 * (X / n) ∧ X' % n = 2 * (X % n) + bt) ∧ (n ≤ 2 * (X % n) + bt → X' / n = 2 * (X / n) + 1 ∧ X' % n = 2 * (X % n) + bt - n) := by
  have h1 := Nat.div_add_mod X n
  have h2 := Nat.mod_lt X hn
  have h3 : X' = n * (2 * (X / n)) + (2 * (X % n) + bt) := by rw [hX, Nat.mul_left_comm]; omega
  refine ⟨fun h => ?_, fun h => ?_⟩
  · rw [h3, Nat.mul_add_div hn, Nat.mul_add_mod, Nat.div_eq_of_lt h, Nat.mod_eq_of_lt h]; exact ⟨rfl, rfl⟩
  · have h4 : X' = n * (2 * (X / n) + 1) + (2 * (X % n) + bt - n) := by rw [h3, Nat.mul_add n]; omega
    have h5 : 2 * (X % n) + bt - n < n := by omega
    rw [h4, Nat.mul_add_div hn, Nat.mul_add_mod, Nat.div_eq_of_lt h5, Nat.mod_eq_of_lt h5]; exact ⟨rfl, rfl⟩
theorem half_bit (m p : Nat) : m / 2 ^ p = 2 * (m / 2 ^ (p + 1)) + m / 2 ^ p % 2 := by
  rw [Nat.pow_succ, ← Nat.div_div_eq_div_mul]; omega
end Go.Proofs
/- gcd: of words and of numbers, by the program and by the reference. -/
namespace Go.Proofs
open Go Go.Sv Num
variable {G : Imm}
def tz (m : Nat) : Nat := if h : m = 0 then 0 else if m % 2 = 1 then 0 else tz (m / 2) + 1
termination_by m
decreasing_by omega
theorem tz_odd {m : Nat} (h : m % 2 = 1) : tz m = 0 := by
  unfold tz; rw [dif_neg (by omega), if_pos h]
theorem tz_even {m : Nat} (h0 : m ≠ 0) (h : m % 2 = 0) : tz m = tz (m / 2) + 1 := by
  rw [tz, dif_neg h0, if_neg (by omega)]
theorem tz_mul {u : Nat} (hu : u % 2 = 1) : ∀ t, tz (2 ^ t * u) = t
  | 0 => by rw [Nat.pow_zero, Nat.one_mul, tz_odd hu]
  | t + 1 => by
    have h0 : 2 ^ t * u ≠ 0 := Nat.mul_ne_zero (Nat.ne_of_gt (Nat.two_pow_pos t)) (by omega)
    have e : 2 ^ (t + 1) * u = 2 * (2 ^ t * u) := by rw [Nat.pow_succ]; ac_rfl
    rw [e, tz_even (by omega) (Nat.mul_mod_right _ _), Nat.mul_div_cancel_left _ (by decide), tz_mul hu t]
theorem tz_split {m : Nat} : m ≠ 0 → ∃ u, m = 2 ^ tz m * u ∧ u % 2 = 1 := by
  induction m using Nat.strongRecOn with
  | ind m ih =>
    intro h0
    by_cases h : m % 2 = 1
    · exact ⟨m, by rw [tz_odd h, Nat.pow_zero, Nat.one_mul], h⟩
    · obtain ⟨u, hu, hu1⟩ := ih (m / 2) (by omega) (by omega)
      refine ⟨u, ?_, hu1⟩
      rw [tz_even h0 (by omega), Nat.pow_succ, Nat.mul_right_comm, ← hu]; omega
/-- the halving step of the reference's gcd -/
def GInv (N M both x y : Nat) : Prop := y ≠ 0 ∧ (x = 0 → y * 2 ^ both = Nat.gcd N M) ∧ (x ≠ 0 → ∀ u v, u % 2 = 1 → v % 2 = 1 → x = 2 ^ tz x * u → y = 2 ^ tz y * v → 2 ^ both * Nat.gcd u v = Nat.gcd N M)
theorem ginv_start {N M : Nat} (hN : N ≠ 0) (hM : M ≠ 0) : GInv N M (min (tz N) (tz M)) N M :=
  ⟨hM, fun h => absurd h hN, fun _ u v hu hv h1 h2 => by
    have := gcd_two hu hv (tz N) (tz M)
    rw [← h1, ← h2] at this; exact this.symm⟩
theorem ginv_step {N M both x y u v : Nat} (h : GInv N M both x y) (hx : x ≠ 0) (hu : u % 2 = 1) (hv : v % 2 = 1) (h1 : x = 2 ^ tz x * u) (h2 : y = 2 ^ tz y * v) :
    (v ≤ u → GInv N M both (u - v) v) ∧ (u ≤ v → GInv N M both (v - u) u) := by
  have hg := h.2.2 hx u v hu hv h1 h2
  have key : ∀ a b, a % 2 = 1 → b % 2 = 1 → b ≤ a → 2 ^ both * Nat.gcd a b = Nat.gcd N M → GInv N M both (a - b) b := fun a b ha hb hle hg => by
    refine ⟨by omega, fun h0 => ?_, fun h0 u2 v2 hu2 hv2 e1 e2 => ?_⟩
    · have : a = b := by omega
      rw [this, Nat.gcd_self] at hg; rw [Nat.mul_comm]; exact hg
    · rw [tz_odd hb, Nat.pow_zero, Nat.one_mul] at e2
      rw [← hg, ← e2, Nat.gcd_comm u2, ← gcd_odd hb (tz (a - b)), ← e1, Nat.gcd_comm, Nat.gcd_sub_self_left hle]
  exact ⟨fun hle => key u v hu hv hle hg, fun hle => key v u hv hu hle (by rw [Nat.gcd_comm]; exact hg)⟩
theorem half_down {x : Nat} (h : x ≠ 0) : ∃ u, u % 2 = 1 ∧ x = 2 ^ tz x * u ∧ x / 2 ^ tz x = u ∧ u ≤ x := by
  obtain ⟨u, h1, h2⟩ := tz_split h
  have hp := Nat.two_pow_pos (tz x)
  have h3 : x / 2 ^ tz x = u := by rw [show x / 2 ^ tz x = 2 ^ tz x * u / 2 ^ tz x from congrArg (· / 2 ^ tz x) h1, Nat.mul_div_cancel_left _ hp]
  exact ⟨u, h2, h1, h3, by rw [← h3]; exact Nat.div_le_self _ _⟩
theorem tz_le {m k : Nat} (h0 : m ≠ 0) (h : m < 2 ^ k) : tz m < k := by
  obtain ⟨u, h1, h2⟩ := tz_split h0
  rcases Nat.lt_or_ge (tz m) k with h3 | h3
  · exact h3
  · exfalso
    have h4 : 2 ^ k ≤ 2 ^ tz m := Nat.pow_le_pow_right (by decide) h3
    have h5 : 2 ^ tz m ≤ m := by
      have : 2 ^ tz m * 1 ≤ 2 ^ tz m * u := Nat.mul_le_mul_left _ (by omega)
      omega
    omega
theorem twos_val {a : List Nat} (ha : Lim a) {i j : Nat} (hz : ∀ t, t < i → limb a t = 0) (hj : limb a i % 2 ^ j = 0) (ho : limb a i / 2 ^ j % 2 = 1) (hj2 : j < 32) : tz (val a) = 32 * i + j := by
  have h1 : low a i = 0 := by
    have : low a i = low [] i := low_congr fun t ht => by rw [hz t ht, limb_nil]
    rw [this]; exact low_all (Nat.zero_le _)
  have h2 : limb a i = 2 ^ j * (limb a i / 2 ^ j) := by have := Nat.div_add_mod (limb a i) (2 ^ j); omega
  have h3 : val a = 2 ^ (32 * i + j) * (limb a i / 2 ^ j + 2 * (2 ^ (31 - j) * val (a.drop (i + 1)))) := by
    rw [low_val a i, h1, Nat.zero_add, val_cons_limb, Nat.pow_add, Nat.pow_mul, Nat.mul_assoc, Nat.mul_add (2 ^ j), ← h2, ← Nat.mul_assoc 2, ← Nat.mul_assoc (2 ^ j), ← p32 hj2]
  rw [h3]; exact tz_mul (by omega) _
end Go.Proofs
