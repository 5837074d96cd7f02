/- Polygons: area and flat corners, begun elsewhere, and with an edge's inner point put in; plain facts. -/
import Derived.Test.YtofplgefmjojjaaGreatDoorSgc
namespace Num
open Go Go.Proofs
def perL {α : Type} (n : Nat) (h : Nat → α) : List α := (List.range n).map h
theorem perL_length {α : Type} (n : Nat) (h : Nat → α) : (perL n h).length = n := by unfold perL; simp
theorem perL_congr {α : Type} {n : Nat} {f g : Nat → α} (h : ∀ i, i < n → f i = g i) : perL n f = perL n g := List.map_congr_left fun i hi => h i (List.mem_range.1 hi)
theorem perL_succ {α : Type} (n : Nat) (h : Nat → α) : perL (n + 1) h = perL n h ++ [h n] := by unfold perL; rw [List.range_succ, List.map_append]; rfl
theorem perL_get {α : Type} {n i : Nat} {h : Nat → α} (hi : i < (perL n h).length) : (perL n h)[i] = h i := by simp [perL]
theorem perL_shift {α : Type} {n k : Nat} {h : Nat → α} (hp : ∀ i, h (i % n) = h i) (hk : k ≤ n) : perL n (fun i => h (i + k)) = (perL n h).drop k ++ (perL n h).take k := by
  refine List.ext_getElem ?_ fun i h1 h2 => ?_
  · rw [List.length_append, List.length_drop, List.length_take, perL_length, perL_length]; omega
  · rw [perL_get, List.getElem_append]
    rw [perL_length] at h1
    split
    · rw [List.getElem_drop, perL_get, Nat.add_comm k i]
    · rename_i hi
      rw [List.length_drop, perL_length] at hi
      rw [List.getElem_take, perL_get, List.length_drop, perL_length, ← hp (i + k), Nat.mod_eq_sub_mod (by omega), show i + k - n = i - (n - k) by omega, hp]
abbrev x2 (a b : V2) : Rat := a.1 * b.2 - a.2 * b.1
def areaL (l : List V2) : Rat := (perL l.length fun i => x2 (cor l i) (cor l (i + 1))).sum
theorem rot_len {l : List V2} {k : Nat} (hk : k ≤ l.length) : (l.drop k ++ l.take k).length = l.length := by rw [List.length_append, List.length_drop, List.length_take]; omega
theorem sum_app (a b : List Rat) : (a ++ b).sum = a.sum + b.sum := by
  induction a with
  | nil => rw [List.nil_append, List.sum_nil]; grind
  | cons x a ih => rw [List.cons_append, List.sum_cons, List.sum_cons, ih]; grind
theorem sum_rot (l : List Rat) (k : Nat) : (l.drop k ++ l.take k).sum = l.sum := by
  have h := sum_app (l.take k) (l.drop k)
  rw [List.take_append_drop] at h
  rw [sum_app, h]; grind
theorem area_rot {l : List V2} {k : Nat} (hk : k ≤ l.length) : areaL (l.drop k ++ l.take k) = areaL l := by
  unfold areaL
  refine Eq.trans ?_ (sum_rot _ k)
  rw [rot_len hk, ← perL_shift (h := fun i => x2 (cor l i) (cor l (i + 1))) (fun i => ?_) hk]
  · congr 1
    refine perL_congr fun i _ => ?_
    rw [cor_rot hk, cor_rot hk, show i + 1 + k = i + k + 1 by omega]
  · rw [cor_per, per_succ (cor_per l)]
theorem sum_one (a : List Rat) (x : Rat) : (a ++ [x]).sum = a.sum + x := by rw [sum_app, List.sum_singleton]
theorem area_put {m : List V2} {t : Rat} (hm : 0 < m.length) : areaL (m ++ [atP (cor m (m.length - 1)) (cor m 0) t]) = areaL m := by
  obtain ⟨n, hn⟩ : ∃ n, n + 1 = m.length := ⟨m.length - 1, by omega⟩
  obtain ⟨a, ha⟩ : ∃ a, a = cor m (m.length - 1) := ⟨_, rfl⟩
  obtain ⟨b, hb⟩ : ∃ b, b = cor m 0 := ⟨_, rfl⟩
  obtain ⟨p, hp⟩ : ∃ p, p = atP a b t := ⟨_, rfl⟩
  have han : cor m n = a := by rw [ha, show m.length - 1 = n by omega]
  have hb1 : cor m (n + 1) = b := by rw [hn, cor_wrap, hb]
  rw [← ha, ← hb, ← hp]
  have c1 : ∀ i, i < n + 1 → cor (m ++ [p]) i = cor m i := fun i hi => cor_app (by omega)
  have c2 : cor (m ++ [p]) (n + 1) = p := by rw [hn]; exact cor_app1 m p
  have c3 : cor (m ++ [p]) (n + 1 + 1) = b := by rw [hn, hb]; exact cor_app2 p (by omega)
  unfold areaL
  rw [List.length_append, List.length_singleton, ← hn, perL_succ, perL_succ, perL_succ, sum_one, sum_one, sum_one, c1 n (by omega), c2, c3, han, hb1, perL_congr (g := fun i => x2 (cor m i) (cor m (i + 1))) fun i hi => by rw [c1 i (by omega), c1 (i + 1) (by omega)]]
  have : x2 a p + x2 p b = x2 a b := by rw [hp]; show a.1 * (a.2 + (b.2 - a.2) * t) - a.2 * (a.1 + (b.1 - a.1) * t) + ((a.1 + (b.1 - a.1) * t) * b.2 - (a.2 + (b.2 - a.2) * t) * b.1) = a.1 * b.2 - a.2 * b.1; grind
  rw [Rat.add_assoc, this]
theorem tri_scale {s x : Rat} (hs : 0 < s) : tri (s * x) 0 = tri x 0 := by
  have h1 : s * x = 0 ↔ x = 0 := ⟨fun h => mz h (by grind), fun h => by rw [h]; grind⟩
  have h2 : 0 < s * x ↔ 0 < x := by
    constructor
    · intro h
      refine Rat.not_le.1 fun hx => ?_
      have := Rat.mul_nonneg (Rat.le_of_lt hs) (show 0 ≤ -x by grind)
      grind
    · exact Rat.mul_pos hs
  unfold tri
  grind
theorem turnL_rot {l : List V2} {k : Nat} (hk : k ≤ l.length) : turnL (l.drop k ++ l.take k) = (turnL l).drop k ++ (turnL l).take k := by
  unfold turnL
  rw [rot_len hk]
  split
  · rw [List.drop_nil, List.take_nil]; rfl
  · have hn : 0 < l.length := by omega
    refine Eq.trans ?_ (perL_shift (h := trn (cor l) l.length) (fun i => trn_per (cor_per l) hn i) hk)
    refine perL_congr fun i _ => ?_
    rw [show cor (l.drop k ++ l.take k) = fun i => cor l (i + k) from funext (cor_rot hk), trn_shift k hn]
theorem turnL_put {m : List V2} {t : Rat} (hm : 3 ≤ m.length) (h0 : 0 < t) (h1 : t < 1) : turnL (m ++ [atP (cor m (m.length - 1)) (cor m 0) t]) = turnL m ++ [0] := by
  obtain ⟨n, hn⟩ : ∃ n, n + 3 = m.length := ⟨m.length - 3, by omega⟩
  obtain ⟨a, ha⟩ : ∃ a, a = cor m (m.length - 1) := ⟨_, rfl⟩
  obtain ⟨b, hb⟩ : ∃ b, b = cor m 0 := ⟨_, rfl⟩
  obtain ⟨p, hp⟩ : ∃ p, p = atP a b t := ⟨_, rfl⟩
  have han : cor m (n + 2) = a := by rw [ha, show m.length - 1 = n + 2 by omega]
  have hb1 : cor m (n + 3) = b := by rw [hn, cor_wrap, hb]
  rw [← ha, ← hb, ← hp]
  have c1 : ∀ i, i < n + 3 → cor (m ++ [p]) i = cor m i := fun i hi => cor_app (by omega)
  have c2 : cor (m ++ [p]) (n + 3) = p := by rw [hn]; exact cor_app1 m p
  have c3 : cor (m ++ [p]) (n + 3 + 1) = b := by rw [hn, hb]; exact cor_app2 p (by omega)
  have w4 : ∀ i, cor (m ++ [p]) (i + (n + 4)) = cor (m ++ [p]) i := fun i => by
    have hp2 := cor_per (m ++ [p])
    rw [List.length_append, List.length_singleton, ← hn] at hp2
    rw [← hp2 (i + (n + 4)), show n + 4 = n + 3 + 1 by omega, Nat.add_mod_right, hp2]
  have w3 : ∀ i, cor m (i + (n + 3)) = cor m i := fun i => by
    have hp2 := cor_per m
    rw [← hn] at hp2
    rw [← hp2 (i + (n + 3)), Nat.add_mod_right, hp2]
  have e1 : ∀ x : V2, cr x a p = t * cr x a b := fun x => by rw [hp]; unfold cr crs atP; simp only; grind
  have e2 : ∀ x : V2, cr p b x = (1 - t) * cr a b x := fun x => by rw [hp]; unfold cr crs atP; simp only; grind
  have e3 : cr a p b = 0 := by rw [hp]; unfold cr crs atP; simp only; grind
  have tl : turnL (m ++ [p]) = perL (n + 3 + 1) (trn (cor (m ++ [p])) (n + 3 + 1)) := by unfold turnL; rw [List.length_append, List.length_singleton, ← hn, if_neg (by omega)]; rfl
  have tm : turnL m = perL (n + 3) (trn (cor m) (n + 3)) := by unfold turnL; rw [← hn, if_neg (by omega)]; rfl
  rw [tl, tm, perL_succ]
  congr 1
  · refine perL_congr fun i hi => ?_
    unfold trn
    by_cases i0 : i = 0
    · subst i0
      rw [show 0 + (n + 3 + 1) - 1 = n + 3 by omega, show 0 + (n + 3) - 1 = n + 2 by omega, c2, c1 0 (by omega), c1 (0 + 1) (by omega), ← hb, han, e2, tri_scale (by grind)]
    · by_cases i2 : i = n + 2
      · subst i2
        rw [show n + 2 + (n + 3 + 1) - 1 = n + 1 + (n + 4) by omega, show n + 2 + (n + 3) - 1 = n + 1 + (n + 3) by omega, w4, w3, c1 (n + 1) (by omega), c1 (n + 2) (by omega), show n + 2 + 1 = n + 3 by omega, c2, hb1, han, e1, tri_scale h0]
      · rw [show i + (n + 3 + 1) - 1 = i - 1 + (n + 4) by omega, show i + (n + 3) - 1 = i - 1 + (n + 3) by omega, w4, w3, c1 (i - 1) (by omega), c1 i (by omega), c1 (i + 1) (by omega)]
  · unfold trn
    rw [show n + 3 + (n + 3 + 1) - 1 = n + 2 + (n + 4) by omega, w4, c1 (n + 2) (by omega), c2, c3, han, e3]; rfl
def flatI (t : List Int) : List Int := ((List.range t.length).filter fun i => decide (t.getD i 1 = 0)).map fun (i : Nat) => (i : Int)
theorem flatI_length (t : List Int) : (flatI t).length = t.countP fun n => decide (n = 0) := by
  have h : t = (List.range t.length).map fun i => t.getD i 1 := by
    refine List.ext_getElem (by simp) fun i h1 h2 => ?_
    simp [h1]
  unfold flatI
  rw [List.length_map, ← List.countP_eq_length_filter]
  conv => rhs; rw [h, List.countP_map]
  rfl
theorem flat_rot {l : List V2} {k : Nat} (hk : k ≤ l.length) : (flatI (turnL (l.drop k ++ l.take k))).length = (flatI (turnL l)).length := by
  rw [flatI_length, flatI_length, turnL_rot hk, List.countP_append, Nat.add_comm, ← List.countP_append, List.take_append_drop]
theorem flat_put {m : List V2} {t : Rat} (hm : 3 ≤ m.length) (h0 : 0 < t) (h1 : t < 1) : (flatI (turnL (m ++ [atP (cor m (m.length - 1)) (cor m 0) t]))).length = (flatI (turnL m)).length + 1 := by
  rw [flatI_length, flatI_length, turnL_put hm h0 h1, List.countP_append]; rfl
theorem cvx_put {m : List V2} {t : Rat} (hm : 3 ≤ m.length) (h0 : 0 < t) (h1 : t < 1) : cvxB (m ++ [atP (cor m (m.length - 1)) (cor m 0) t]) = false := by
  unfold cvxB
  rw [turnL_put hm h0 h1, List.all_append]
  have : ([0] : List Int).all (fun n => decide (n = 1)) = false := rfl
  rw [this, Bool.and_false, Bool.false_and]
end Num
