/- Polygons: which are simple, by each two of their edges; begun elsewhere, turned about, moved; plain facts. -/
import Derived.Test.YtofplgefmjojjaaGreatDoorSga
namespace Num
open Go Go.Proofs
def cor (l : List V2) (i : Nat) : V2 := l.getD (i % l.length) (0, 0)
def wantF (n i j : Nat) : Int := if j = i + 1 ∨ (i = 0 ∧ j + 1 = n) then 1 else 0
def prs (n : Nat) : List (Nat × Nat) := (List.range n).flatMap fun i => ((List.range n).filter fun j => decide (i < j)).map fun j => (i, j)
def prOk (l : List V2) (x : Nat × Nat) : Bool := !decide (cor l x.1 = cor l x.2) && decide (kin (cor l x.1) (cor l (x.1 + 1)) (cor l x.2) (cor l (x.2 + 1)) = wantF l.length x.1 x.2)
def simB (l : List V2) : Bool := decide (3 ≤ l.length) && (prs l.length).all (prOk l)
theorem mem_prs {n i j : Nat} : (i, j) ∈ prs n ↔ i < j ∧ j < n := by
  unfold prs
  simp only [List.mem_flatMap, List.mem_map, List.mem_filter, List.mem_range, decide_eq_true_eq, Prod.mk.injEq]
  constructor
  · rintro ⟨a, _, b, ⟨hb, hab⟩, rfl, rfl⟩; exact ⟨hab, hb⟩
  · rintro ⟨h1, h2⟩; exact ⟨i, by omega, j, ⟨h2, h1⟩, rfl, rfl⟩
def adj (n i j : Nat) : Prop := (i + 1) % n = j % n ∨ (j + 1) % n = i % n
instance (n i j : Nat) : Decidable (adj n i j) := inferInstanceAs (Decidable (_ ∨ _))
def Sim (n : Nat) (c : Nat → V2) : Prop := 3 ≤ n ∧ ∀ i j, i % n ≠ j % n → c i ≠ c j ∧ kin (c i) (c (i + 1)) (c j) (c (j + 1)) = if adj n i j then 1 else 0
def Per (n : Nat) (c : Nat → V2) : Prop := ∀ i, c (i % n) = c i
theorem cor_per (l : List V2) : Per l.length (cor l) := fun i => by unfold cor; rw [Nat.mod_mod]
theorem per_succ {n : Nat} {c : Nat → V2} (h : Per n c) (i : Nat) : c (i % n + 1) = c (i + 1) := by rw [← h (i % n + 1), Nat.mod_add_mod, h]
theorem succ_mod {n i : Nat} (hn : 0 < n) : (i + 1) % n = if i % n + 1 = n then 0 else i % n + 1 := by
  rw [← Nat.mod_add_mod]
  have := Nat.mod_lt i hn
  split
  · rename_i h; rw [h, Nat.mod_self]
  · exact Nat.mod_eq_of_lt (by omega)
theorem adj_comm {n i j : Nat} : adj n i j ↔ adj n j i := Or.comm
theorem want_adj {n i j : Nat} (hi : i < j) (hj : j < n) : wantF n i j = if adj n i j then 1 else 0 := by
  have ha : adj n i j ↔ (j = i + 1 ∨ (i = 0 ∧ j + 1 = n)) := by
    unfold adj
    rw [succ_mod (show 0 < n by omega), succ_mod (show 0 < n by omega), Nat.mod_eq_of_lt hj, Nat.mod_eq_of_lt (show i < n by omega), if_neg (show ¬ i + 1 = n by omega)]
    by_cases h : j + 1 = n
    · rw [if_pos h]; omega
    · rw [if_neg h]; omega
  unfold wantF
  by_cases h1 : j = i + 1 ∨ (i = 0 ∧ j + 1 = n)
  · rw [if_pos h1, if_pos (ha.2 h1)]
  · rw [if_neg h1, if_neg (fun x => h1 (ha.1 x))]
theorem sim_iff {l : List V2} : simB l = true ↔ Sim l.length (cor l) := by
  unfold simB Sim
  rw [Bool.and_eq_true, decide_eq_true_iff, List.all_eq_true]
  have key : ∀ i j, i < j → j < l.length → (prOk l (i, j) = true ↔ cor l i ≠ cor l j ∧ kin (cor l i) (cor l (i + 1)) (cor l j) (cor l (j + 1)) = if adj l.length i j then 1 else 0) := fun i j h1 h2 => by
    unfold prOk
    rw [Bool.and_eq_true, Bool.not_eq_true', decide_eq_false_iff_not, decide_eq_true_iff, want_adj h1 h2]
  constructor
  · rintro ⟨hn, h⟩
    refine ⟨hn, fun i j hij => ?_⟩
    have hi := Nat.mod_lt i (show 0 < l.length by omega)
    have hj := Nat.mod_lt j (show 0 < l.length by omega)
    have hp := cor_per l
    have ad : ∀ a b, adj l.length (a % l.length) (b % l.length) ↔ adj l.length a b := fun a b => by unfold adj; rw [Nat.mod_add_mod, Nat.mod_add_mod, Nat.mod_mod, Nat.mod_mod]
    rcases Nat.lt_or_gt_of_ne hij with hlt | hlt
    · have := (key _ _ hlt hj).1 (h _ (mem_prs.2 ⟨hlt, hj⟩))
      rw [hp, hp, per_succ hp, per_succ hp] at this
      refine ⟨this.1, this.2.trans ?_⟩
      by_cases e : adj l.length i j
      · rw [if_pos e, if_pos ((ad i j).2 e)]
      · rw [if_neg e, if_neg (fun x => e ((ad i j).1 x))]
    · have := (key _ _ hlt hi).1 (h _ (mem_prs.2 ⟨hlt, hi⟩))
      rw [hp, hp, per_succ hp, per_succ hp] at this
      refine ⟨fun e => this.1 e.symm, (kin_comm ..).symm.trans (this.2.trans ?_)⟩
      by_cases e : adj l.length i j
      · rw [if_pos e, if_pos ((ad j i).2 (adj_comm.1 e))]
      · rw [if_neg e, if_neg (fun x => e (adj_comm.1 ((ad j i).1 x)))]
  · rintro ⟨hn, h⟩
    refine ⟨hn, fun ⟨i, j⟩ hx => ?_⟩
    obtain ⟨h1, h2⟩ := mem_prs.1 hx
    refine (key i j h1 h2).2 (h i j ?_)
    rw [Nat.mod_eq_of_lt (show i < l.length by omega), Nat.mod_eq_of_lt h2]; omega
theorem mod_iff {n a b : Nat} : a % n = b % n ↔ ∃ u v, a + n * u = b + n * v := by
  constructor
  · intro h
    refine ⟨b / n, a / n, ?_⟩
    have h1 := Nat.div_add_mod a n
    have h2 := Nat.div_add_mod b n
    omega
  · rintro ⟨u, v, h⟩
    rw [← Nat.add_mul_mod_self_left a n u, h, Nat.add_mul_mod_self_left]
theorem mod_shift {n a b k : Nat} : (a + k) % n = (b + k) % n ↔ a % n = b % n := by
  rw [mod_iff, mod_iff]
  constructor <;> rintro ⟨u, v, h⟩ <;> exact ⟨u, v, by omega⟩
theorem adj_shift {n i j k : Nat} : adj n (i + k) (j + k) ↔ adj n i j := by
  unfold adj
  rw [show i + k + 1 = i + 1 + k by omega, show j + k + 1 = j + 1 + k by omega, mod_shift, mod_shift]
theorem sim_shift {n : Nat} {c : Nat → V2} (k : Nat) (h : Sim n c) : Sim n fun i => c (i + k) := by
  refine ⟨h.1, fun i j hij => ?_⟩
  have := h.2 (i + k) (j + k) (fun e => hij (mod_shift.1 e))
  show c (i + k) ≠ c (j + k) ∧ kin (c (i + k)) (c (i + 1 + k)) (c (j + k)) (c (j + 1 + k)) = _
  rw [show i + 1 + k = i + k + 1 by omega, show j + 1 + k = j + k + 1 by omega]
  refine ⟨this.1, this.2.trans ?_⟩
  by_cases e : adj n i j
  · rw [if_pos e, if_pos (adj_shift.2 e)]
  · rw [if_neg e, if_neg (fun x => e (adj_shift.1 x))]
theorem sim_ext {n : Nat} {c d : Nat → V2} (he : ∀ i, c i = d i) (h : Sim n c) : Sim n d := by rwa [← show c = d from funext he]
theorem sim_shift_iff {n : Nat} {c : Nat → V2} (hp : Per n c) (hn : 0 < n) (k : Nat) : Sim n (fun i => c (i + k)) ↔ Sim n c := by
  refine ⟨fun h => ?_, sim_shift k⟩
  refine sim_ext (fun i => ?_) (sim_shift (n * k - k) h)
  show c (i + (n * k - k) + k) = c i
  have : k ≤ n * k := Nat.le_mul_of_pos_left k hn
  rw [show i + (n * k - k) + k = i + n * k by omega, ← hp, Nat.add_mul_mod_self_left, hp]
/-! the same of lists -/
theorem sim_len {l m : List V2} (hl : l.length = m.length) (h : Sim l.length (cor l) ↔ Sim l.length (cor m)) : simB l = simB m := by
  rw [Bool.eq_iff_iff, sim_iff, sim_iff, h, hl]
theorem cor_rot {l : List V2} {k : Nat} (hk : k ≤ l.length) (i : Nat) : cor (l.drop k ++ l.take k) i = cor l (i + k) := by
  have hl : (l.drop k ++ l.take k).length = l.length := by rw [List.length_append, List.length_drop, List.length_take]; omega
  rcases Nat.eq_zero_or_pos l.length with h0 | h0
  · have : l = [] := List.eq_nil_of_length_eq_zero h0
    subst this; simp [cor]
  have hi := Nat.mod_lt i h0
  unfold cor
  rw [hl]
  have e : (i + k) % l.length = if i % l.length + k < l.length then i % l.length + k else i % l.length + k - l.length := by
    rw [← Nat.mod_add_mod]
    split
    · exact Nat.mod_eq_of_lt (by omega)
    · rw [Nat.mod_eq_sub_mod (by omega)]; exact Nat.mod_eq_of_lt (by omega)
  rw [e, List.getD_eq_getElem?_getD, List.getD_eq_getElem?_getD]
  congr 1
  split
  · rw [List.getElem?_append_left (by rw [List.length_drop]; omega), List.getElem?_drop, Nat.add_comm]
  · rw [List.getElem?_append_right (by rw [List.length_drop]; omega), List.length_drop, List.getElem?_take_of_lt (by omega)]
    congr 1; omega
theorem simB_rot {l : List V2} {k : Nat} (hk : k ≤ l.length) : simB (l.drop k ++ l.take k) = simB l := by
  have hl : (l.drop k ++ l.take k).length = l.length := by rw [List.length_append, List.length_drop, List.length_take]; omega
  rcases Nat.eq_zero_or_pos l.length with h0 | h0
  · unfold simB; rw [hl, h0]; rfl
  refine sim_len hl ?_
  rw [hl, show cor (l.drop k ++ l.take k) = fun i => cor l (i + k) from funext (cor_rot hk)]
  exact sim_shift_iff (cor_per l) h0 k
/-! turns -/
def trn (c : Nat → V2) (n i : Nat) : Int := tri (cr (c (i + n - 1)) (c i) (c (i + 1))) 0
def turnL (l : List V2) : List Int := if l.length < 3 then [] else (List.range l.length).map (trn (cor l) l.length)
def cvxB (l : List V2) : Bool := (turnL l).all (fun n => decide (n = 1)) && simB l
def Trn (n : Nat) (c : Nat → V2) : Prop := ∀ i, trn c n i = 1
theorem trn_per {n : Nat} {c : Nat → V2} (h : Per n c) (hn : 0 < n) (i : Nat) : trn c n (i % n) = trn c n i := by
  unfold trn
  rw [h, per_succ h, ← h (i % n + n - 1), show i % n + n - 1 = i % n + (n - 1) by omega, Nat.mod_add_mod, h, show i + (n - 1) = i + n - 1 by omega]
theorem cvx_iff {l : List V2} : cvxB l = true ↔ Trn l.length (cor l) ∧ Sim l.length (cor l) := by
  unfold cvxB
  rw [Bool.and_eq_true, sim_iff]
  refine and_congr_left fun hs => ?_
  unfold turnL
  rw [if_neg (show ¬ l.length < 3 from Nat.not_lt.2 hs.1), List.all_eq_true]
  constructor
  · intro h i
    have hn : 0 < l.length := Nat.lt_of_lt_of_le (by decide) hs.1
    rw [← trn_per (cor_per l) hn]
    exact of_decide_eq_true (h _ (List.mem_map.2 ⟨i % l.length, List.mem_range.2 (Nat.mod_lt _ hn), rfl⟩))
  · intro h x hx
    obtain ⟨i, _, rfl⟩ := List.mem_map.1 hx
    exact decide_eq_true (h i)
theorem trn_shift {n : Nat} {c : Nat → V2} (k : Nat) (hn : 0 < n) (i : Nat) : trn (fun i => c (i + k)) n i = trn c n (i + k) := by
  show tri (cr (c (i + n - 1 + k)) (c (i + k)) (c (i + 1 + k))) 0 = _
  rw [show i + n - 1 + k = i + k + n - 1 by omega, show i + 1 + k = i + k + 1 by omega]; rfl
theorem cvx_rot {l : List V2} {k : Nat} (hk : k ≤ l.length) : cvxB (l.drop k ++ l.take k) = cvxB l := by
  have hl : (l.drop k ++ l.take k).length = l.length := by rw [List.length_append, List.length_drop, List.length_take]; omega
  rw [Bool.eq_iff_iff, cvx_iff, cvx_iff, hl]
  have hc : cor (l.drop k ++ l.take k) = fun i => cor l (i + k) := funext (cor_rot hk)
  rw [hc]
  rcases Nat.eq_zero_or_pos l.length with h0 | h0
  · constructor <;> rintro ⟨_, h, _⟩ <;> omega
  rw [sim_shift_iff (cor_per l) h0 k]
  refine and_congr_left fun _ => ?_
  constructor
  · intro h i
    have := h (i + (l.length * k - k))
    rw [trn_shift k h0] at this
    have hk2 : k ≤ l.length * k := Nat.le_mul_of_pos_left k h0
    rw [show i + (l.length * k - k) + k = i + l.length * k by omega, ← trn_per (cor_per l) h0, Nat.add_mul_mod_self_left, trn_per (cor_per l) h0] at this
    exact this
  · intro h i; rw [trn_shift k h0]; exact h _
end Num
