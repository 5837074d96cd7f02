/- Plain laws on numbers by limbs: no program in sight. -/
import Init
namespace Num
def val : List Nat → Nat
 | [] => 0
 | x :: l => x + 4294967296 * val l
def Lim (l : List Nat) : Prop := ∀ x ∈ l, x < 4294967296
def dig (n : Nat) : List Nat := if h : n = 0 then [] else (n % 4294967296) :: dig (n / 4294967296)
termination_by n
decreasing_by exact Nat.div_lt_self (by omega) (by omega)
def limb (l : List Nat) (i : Nat) : Nat := l.getD i 0
theorem lim_nil : Lim [] := fun _ h => by cases h
theorem lim_cons {x : Nat} {l : List Nat} (h : x < 4294967296) (k : Lim l) : Lim (x :: l) := fun y hy => (List.mem_cons.1 hy).elim (fun e => e ▸ h) (k y)
theorem lim_append {a b : List Nat} (h : Lim a) (k : Lim b) : Lim (a ++ b) := fun x hx => (List.mem_append.1 hx).elim (h x) (k x)
theorem lim_take {l : List Nat} (h : Lim l) (n : Nat) : Lim (l.take n) := fun x hx => h x (List.mem_of_mem_take hx)
theorem lim_drop {l : List Nat} (h : Lim l) (n : Nat) : Lim (l.drop n) := fun x hx => h x (List.mem_of_mem_drop hx)
theorem lim_tail {x : Nat} {l : List Nat} (h : Lim (x :: l)) : x < 4294967296 ∧ Lim l := ⟨h x (by simp), fun y hy => h y (by simp [hy])⟩
theorem limb_lt {l : List Nat} (h : Lim l) (i : Nat) : limb l i < 4294967296 := by
 unfold limb
 rw [List.getD_eq_getElem?_getD]
 cases hi : l[i]? with
 | none => simp
 | some x => exact h x (List.mem_of_getElem? hi)
theorem limb_get {l : List Nat} {i : Nat} (h : i < l.length) : l[i]? = some (limb l i) := by unfold limb; rw [List.getD_eq_getElem?_getD, List.getElem?_eq_getElem h]; rfl
theorem limb_out {l : List Nat} {i : Nat} (h : l.length ≤ i) : limb l i = 0 := by unfold limb; rw [List.getD_eq_getElem?_getD, List.getElem?_eq_none h]; rfl
theorem limb_zero (x : Nat) (l : List Nat) : limb (x :: l) 0 = x := rfl
theorem limb_succ (x : Nat) (l : List Nat) (i : Nat) : limb (x :: l) (i + 1) = limb l i := by simp [limb]
theorem limb_nil (i : Nat) : limb [] i = 0 := by simp [limb]
theorem val_append (a b : List Nat) : val (a ++ b) = val a + 4294967296 ^ a.length * val b := by
 induction a with
 | nil => simp [val]
 | cons x a ih => simp only [List.cons_append, val, ih, List.length_cons, Nat.pow_succ]; rw [Nat.mul_add, Nat.add_assoc]; congr 2; rw [← Nat.mul_assoc, Nat.mul_comm 4294967296]
theorem val_lt {l : List Nat} (h : Lim l) : val l < 4294967296 ^ l.length := by
  induction l with
  | nil => simp [val]
  | cons x l ih =>
    obtain ⟨h1, h2⟩ := lim_tail h
    have := ih h2
    simp only [val, List.length_cons, Nat.pow_succ]
    have : val l + 1 ≤ 4294967296 ^ l.length := this
    have := Nat.mul_le_mul_right 4294967296 this
    omega
theorem dig_zero : dig 0 = [] := by unfold dig; rfl
theorem dig_pos {n : Nat} (h : n ≠ 0) : dig n = (n % 4294967296) :: dig (n / 4294967296) := by rw [dig.eq_def]; simp [h]
theorem val_dig (n : Nat) : val (dig n) = n := by
  induction n using Nat.strongRecOn with
  | _ n ih =>
    by_cases h : n = 0
    · subst h; simp [dig_zero, val]
    · rw [dig_pos h, val, ih _ (Nat.div_lt_self (by omega) (by omega))]; omega
theorem lim_dig (n : Nat) : Lim (dig n) := by
  induction n using Nat.strongRecOn with
  | _ n ih =>
    by_cases h : n = 0
    · subst h; rw [dig_zero]; exact lim_nil
    · rw [dig_pos h]; exact lim_cons (by omega) (ih _ (Nat.div_lt_self (by omega) (by omega)))
theorem dig_length_le {n k : Nat} (h : n < 4294967296 ^ k) : (dig n).length ≤ k := by
  induction k generalizing n with
  | zero => have : n = 0 := by simpa using h
            subst this; simp [dig_zero]
  | succ k ih =>
    by_cases hn : n = 0
    · subst hn; simp [dig_zero]
    · rw [dig_pos hn, List.length_cons]
      have : n / 4294967296 < 4294967296 ^ k := by
        rw [Nat.div_lt_iff_lt_mul (by omega)]; rwa [Nat.pow_succ] at h
      have := ih this; omega
theorem lt_of_dig_length {n k : Nat} (h : (dig n).length ≤ k) : n < 4294967296 ^ k := by
 have h1 := val_lt (lim_dig n)
 rw [val_dig] at h1
 exact Nat.lt_of_lt_of_le h1 (Nat.pow_le_pow_right (by omega) h)
theorem dig_eq_nil {n : Nat} : dig n = [] ↔ n = 0 := by
 constructor
 ·intro h; have := val_dig n; rw [h] at this; simpa [val] using this.symm
 ·rintro rfl; exact dig_zero
theorem dig_len_zero {n : Nat} : (dig n).length = 0 ↔ n = 0 := by rw [List.length_eq_zero_iff, dig_eq_nil]
theorem dig_inj {m n : Nat} : dig m = dig n ↔ m = n := ⟨fun h => by rw [← val_dig m, h, val_dig], fun h => by rw [h]⟩
theorem val_replicate_zero (k : Nat) : val (List.replicate k 0) = 0 := by
 induction k with
 | zero => rfl
 | succ k ih => simp [List.replicate_succ, val, ih]
theorem val_all_zero {l : List Nat} (h : ∀ x ∈ l, x = 0) : val l = 0 := by
 induction l with
 | nil => rfl
 | cons x l ih => have h1 : x = 0 := h x (by simp); have h2 := ih fun y hy => h y (by simp [hy]); simp only [val]; omega
theorem val_pos_of_last {l : List Nat} (hne : l ≠ []) (h : l.getLast hne ≠ 0) : val l ≠ 0 := by
  induction l with
  | nil => exact absurd rfl hne
  | cons x l ih =>
    cases l with
    | nil => simp [val] at *; exact h
    | cons y l =>
      have := ih (by simp) (by simpa using h)
      have e : val (x :: y :: l) = x + 4294967296 * val (y :: l) := rfl
      omega
theorem dig_val {l : List Nat} (h : Lim l) (hl : ∀ hne : l ≠ [], l.getLast hne ≠ 0) : dig (val l) = l := by
  induction l with
  | nil => simp [val, dig_zero]
  | cons x l ih =>
    obtain ⟨h1, h2⟩ := lim_tail h
    have hp := val_pos_of_last (by simp) (hl (by simp))
    rw [dig_pos hp]
    have e : val (x :: l) = x + 4294967296 * val l := rfl
    rw [show val (x :: l) % 4294967296 = x from by omega, show val (x :: l) / 4294967296 = val l from by omega]
    rw [ih h2 fun hne => by have := hl (by simp); rwa [List.getLast_cons hne] at this]
theorem trim_take {l : List Nat} (h : Lim l) {n : Nat} (hn : n ≤ l.length) (hz : ∀ i, n ≤ i → limb l i = 0) (hl : n = 0 ∨ limb l (n - 1) ≠ 0) : l.take n = dig (val l) := by
 have e : val l = val (l.take n) := by
  have := val_append (l.take n) (l.drop n)
  rw [List.take_append_drop] at this
  rw [this, val_all_zero (l := l.drop n)]
  ·simp
  ·intro x hx
   obtain ⟨i, hi⟩ := List.mem_iff_getElem?.1 hx
   rw [List.getElem?_drop] at hi
   have := hz (n + i) (by omega)
   have hlt : n + i < l.length := by
    rcases Nat.lt_or_ge (n + i) l.length with h' | h'
    ·exact h'
    ·rw [List.getElem?_eq_none h'] at hi; cases hi
   rw [limb_get hlt, this] at hi; cases hi; rfl
 rw [e, dig_val (lim_take h n)]
 intro hne
 have hlen : (l.take n).length = n := by simp; omega
 have hpos : n ≠ 0 := fun h0 => hne (by subst h0; simp)
 rw [List.getLast_eq_getElem]
 have h1 := hl.resolve_left hpos
 have h2 : (l.take n)[n - 1]? = some (limb l (n - 1)) := by rw [List.getElem?_take, if_pos (by omega), limb_get (by omega)]
 have h3 := (List.getElem?_eq_some_iff.1 h2).2
 simp only [hlen]
 rw [h3]; exact h1
theorem val_take_drop (l : List Nat) (n : Nat) (h : n ≤ l.length) : val l = val (l.take n) + 4294967296 ^ n * val (l.drop n) := by
 have := val_append (l.take n) (l.drop n)
 rw [List.take_append_drop, List.length_take, Nat.min_eq_left h] at this
 exact this
theorem val_congr : ∀ {a b : List Nat}, (∀ j, limb a j = limb b j) → val a = val b
  | [], [], _ => rfl
  | [], y :: b, h => by
    have h0 := h 0; rw [limb_nil, limb_zero] at h0
    have h1 := val_congr (a := []) (b := b) fun j => by have := h (j + 1); rw [limb_nil, limb_succ] at this; rw [limb_nil]; exact this
    simp only [val] at h1 ⊢; omega
  | x :: a, [], h => by
    have h0 := h 0; rw [limb_nil, limb_zero] at h0
    have h1 := val_congr (a := a) (b := []) fun j => by have := h (j + 1); rw [limb_nil, limb_succ] at this; rw [limb_nil]; exact this
    simp only [val] at h1 ⊢; omega
  | x :: a, y :: b, h => by
    have h0 := h 0; rw [limb_zero, limb_zero] at h0
    have h1 := val_congr (a := a) (b := b) fun j => by have := h (j + 1); rwa [limb_succ, limb_succ] at this
    simp only [val]; omega
def low (l : List Nat) (k : Nat) : Nat := val ((List.range k).map (limb l))
theorem low_zero (l : List Nat) : low l 0 = 0 := rfl
theorem low_succ (l : List Nat) (k : Nat) : low l (k + 1) = low l k + 4294967296 ^ k * limb l k := by
 unfold low; rw [List.range_succ, List.map_append, val_append]; simp [val]
theorem low_lt {l : List Nat} (h : Lim l) (k : Nat) : low l k < 4294967296 ^ k := by
 have := val_lt (l := (List.range k).map (limb l)) fun x hx => by simp only [List.mem_map] at hx; obtain ⟨i, _, rfl⟩ := hx; exact limb_lt h i
 simpa [low] using this
theorem low_all {l : List Nat} {k : Nat} (h : l.length ≤ k) : low l k = val l := by
 refine val_congr fun j => ?_
 by_cases hj : j < k
 ·have : limb ((List.range k).map (limb l)) j = limb l j := by
   unfold limb; rw [List.getD_eq_getElem?_getD]; simp [hj]
  exact this
 ·rw [limb_out (by simpa using hj), limb_out (by omega)]
theorem cmp_at {a b : List Nat} (ha : Lim a) {i n : Nat} (hn : a.length ≤ n) (hm : b.length ≤ n) (hi : i < n) (he : ∀ j, i < j → j < n → limb a j = limb b j) (hlt : limb a i < limb b i) : val a < val b := by
  have key : ∀ m, i < m → m ≤ n → low a m < low b m := by
    intro m
    induction m with
    | zero => intro h; omega
    | succ m ih =>
      intro h1 h2
      rw [low_succ, low_succ]
      by_cases hm : i = m
      · subst hm
        have h3 := low_lt ha i
        have h4 : 4294967296 ^ i * (limb a i + 1) ≤ 4294967296 ^ i * limb b i := Nat.mul_le_mul_left _ hlt
        rw [Nat.mul_add, Nat.mul_one] at h4
        omega
      · rw [he m (by omega) (by omega)]
        have := ih (by omega) (by omega); omega
  have := key n hi (Nat.le_refl n)
  rwa [low_all hn, low_all hm] at this
theorem val_eq_of {a b : List Nat} {n : Nat} (hn : a.length ≤ n) (hm : b.length ≤ n) (he : ∀ j, j < n → limb a j = limb b j) : val a = val b :=
 val_congr fun j => by
  by_cases hj : j < n
  ·exact he j hj
  ·rw [limb_out (by omega), limb_out (by omega)]
theorem pow_split (k : Nat) : (4294967296 : Nat) ^ (k + 1) = 4294967296 ^ k * 4294967296 := Nat.pow_succ ..
theorem val_snoc (l : List Nat) (x : Nat) : val (l ++ [x]) = val l + 4294967296 ^ l.length * x := by rw [val_append]; simp [val]
theorem lim_snoc {l : List Nat} {x : Nat} (h : Lim l) (hx : x < 4294967296) : Lim (l ++ [x]) := lim_append h (lim_cons hx lim_nil)
end Num
