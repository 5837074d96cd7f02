/- straitref10: how two segments meet, by the document's answer. -/
import Derived.Test.YtofplgefmjojjaaGreatDoorSge
import Derived.Test.YtofplgefmjojjaaGreatDoorSsk
import Derived.Test.YtofplgefmjojjaaGreatDoorSgo
import Derived.Test.YtofplgefmjojjaaGreatDoorScl
import Derived.Test.YtofplgefmjojjaaGreatDoorScr
namespace Num
open Go Go.Proofs
abbrev dt (a b p : V2) : Rat := (p.1 - a.1) * (p.1 - b.1) + (p.2 - a.2) * (p.2 - b.2)
def onD (a b p : V2) : Bool := decide (cr a b p = 0) && decide (dt a b p ≤ 0)
theorem sq_nn (x : Rat) : 0 ≤ x * x := by
 rcases Rat.le_total (a := 0) (b := x) with h | h
 ·exact Rat.mul_nonneg h h
 ·have := Rat.mul_nonneg (show 0 ≤ -x by grind) (show 0 ≤ -x by grind); grind
theorem sq_zero {x : Rat} (h : x * x = 0) : x = 0 := Classical.byContradiction fun hx => hx (mz h hx)
theorem btw_mul {a b p : Rat} (h : btw a b p) : (p - a) * (p - b) ≤ 0 := by
 unfold btw at h
 rcases h with h | h
 ·have := Rat.mul_nonneg (show 0 ≤ p - a by grind) (show 0 ≤ b - p by grind); grind
 ·have := Rat.mul_nonneg (show 0 ≤ a - p by grind) (show 0 ≤ p - b by grind); grind
theorem onD_iff {a b p : V2} : onD a b p = true ↔ onS a b p := by
 unfold onD
 rw [Bool.and_eq_true, decide_eq_true_eq, decide_eq_true_eq]
 constructor
 ·rintro ⟨h1, h2⟩
  by_cases hab : a = b
  ·subst hab
   have q1 := sq_nn (p.1 - a.1)
   have q2 := sq_nn (p.2 - a.2)
   unfold dt at h2
   have e1 := sq_zero (x := p.1 - a.1) (by grind)
   have e2 := sq_zero (x := p.2 - a.2) (by grind)
   have : p = a := Prod.ext (by grind) (by grind)
   rw [this]; exact on_left _ _
  ·obtain ⟨s, hs⟩ : ∃ s, p = atP a b s := by
    unfold cr crs at h1
    rcases ne2 hab with hd | hd
    ·refine ⟨(p.1 - a.1) / (b.1 - a.1), ?_⟩
     obtain ⟨s, hs⟩ : ∃ s, s = (p.1 - a.1) / (b.1 - a.1) := ⟨_, rfl⟩
     have e : s * (b.1 - a.1) = p.1 - a.1 := by rw [hs]; exact Rat.div_mul_cancel hd
     rw [← hs]
     have e2 : (b.1 - a.1) * (p.2 - (a.2 + (b.2 - a.2) * s)) = 0 := by
      have : p.1 = a.1 + s * (b.1 - a.1) := by grind
      rw [this] at h1; grind
     have := mz e2 hd
     exact Prod.ext (by show p.1 = a.1 + (b.1 - a.1) * s; grind) (by show p.2 = a.2 + (b.2 - a.2) * s; grind)
    ·refine ⟨(p.2 - a.2) / (b.2 - a.2), ?_⟩
     obtain ⟨s, hs⟩ : ∃ s, s = (p.2 - a.2) / (b.2 - a.2) := ⟨_, rfl⟩
     have e : s * (b.2 - a.2) = p.2 - a.2 := by rw [hs]; exact Rat.div_mul_cancel hd
     rw [← hs]
     have e2 : (b.2 - a.2) * (p.1 - (a.1 + (b.1 - a.1) * s)) = 0 := by
      have : p.2 = a.2 + s * (b.2 - a.2) := by grind
      rw [this] at h1; grind
     have := mz e2 hd
     exact Prod.ext (by show p.1 = a.1 + (b.1 - a.1) * s; grind) (by show p.2 = a.2 + (b.2 - a.2) * s; grind)
   refine on_par.2 ⟨s, ?_, ?_, hs⟩
   all_goals
    obtain ⟨D, hD⟩ : ∃ D, D = (b.1 - a.1) * (b.1 - a.1) + (b.2 - a.2) * (b.2 - a.2) := ⟨_, rfl⟩
    have q1 := sq_nn (b.1 - a.1)
    have q2 := sq_nn (b.2 - a.2)
    have hD0 : 0 < D := by
     refine Rat.not_le.1 fun g => hab ?_
     have e1 := sq_zero (x := b.1 - a.1) (by grind)
     have e2 := sq_zero (x := b.2 - a.2) (by grind)
     exact Prod.ext (by grind) (by grind)
    have e : dt a b p = s * (s - 1) * D := by rw [hs, hD]; unfold dt atP; grind
    rw [e] at h2
    refine Rat.not_lt.1 fun g => ?_
   ·have := Rat.mul_pos (Rat.mul_pos (show 0 < -s by grind) (show 0 < 1 - s by grind)) hD0; grind
   ·have := Rat.mul_pos (Rat.mul_pos (show 0 < s by grind) (show 0 < s - 1 by grind)) hD0; grind
 ·rintro ⟨h1, h2, h3⟩
  have := btw_mul h2
  have := btw_mul h3
  exact ⟨h1, by unfold dt; grind⟩
def lowN (l : List V2) (p : V2) : Nat := (l.takeWhile fun x => decide (cmp2 x p < 0)).length
def putF (l : List V2) (p : V2) : List V2 := if l[lowN l p]? = some p then l else l.take (lowN l p) ++ [p] ++ l.drop (lowN l p)
theorem low_eq {l : List V2} {p : V2} {K : Nat} (hK : K ≤ l.length) (h1 : ∀ x ∈ l.take K, cmp2 x p < 0) (h2 : ∀ x, l[K]? = some x → ¬ cmp2 x p < 0) : K = lowN l p := by
  induction l generalizing K with
  | nil => simp at hK; subst hK; rfl
  | cons y l ih =>
    unfold lowN
    cases K with
    | zero =>
      have := h2 y rfl
      rw [List.takeWhile_cons, if_neg (by simpa using this)]; rfl
    | succ K =>
      have := h1 y (by simp)
      rw [List.takeWhile_cons, if_pos (by simpa using this), List.length_cons]
      congr 1
      exact ih (by simpa using hK) (fun x hx => h1 x (by simp [hx])) (fun x hx => h2 x (by simpa using hx))
theorem put_hit {l : List V2} {p x : V2} {K : Nat} (hK : K = lowN l p) (hx : l[K]? = some x) (e : x = p) : putF l p = l := by unfold putF; rw [← hK, hx, if_pos (congrArg some e)]
theorem put_miss {l : List V2} {p : V2} {K : Nat} (hK : K = lowN l p) (h : ∀ x, l[K]? = some x → x ≠ p) : putF l p = l.take K ++ [p] ++ l.drop K := by
 unfold putF; rw [← hK, if_neg fun e => h p e rfl]
theorem low_le (l : List V2) (p : V2) : lowN l p ≤ l.length := (List.takeWhile_prefix _).length_le
theorem tkw_all {f : V2 → Bool} {x : V2} : ∀ {l : List V2}, x ∈ l.takeWhile f → f x = true
  | [], h => by simp at h
  | y :: l, h => by
    rw [List.takeWhile_cons] at h
    split at h
    · rename_i g; rcases List.mem_cons.1 h with rfl | h; exact g; exact tkw_all h
    · simp at h
theorem put_len (l : List V2) (p : V2) : (putF l p).length ≤ l.length + 1 := by
 have := low_le l p
 unfold putF; split
 ·omega
 ·rw [List.length_append, List.length_append, List.length_take, List.length_drop, List.length_singleton]; omega
theorem put_mem {l : List V2} {p x : V2} : x ∈ putF l p ↔ x ∈ l ∨ x = p := by
 unfold putF
 split
 ·rename_i h
  exact ⟨.inl, fun h2 => h2.elim id fun e => e ▸ List.mem_of_getElem? h⟩
 ·rw [List.mem_append, List.mem_append, List.mem_singleton]
  have e : x ∈ l ↔ x ∈ l.take (lowN l p) ∨ x ∈ l.drop (lowN l p) := by rw [← List.mem_append, List.take_append_drop]
  rw [e]; constructor
  ·rintro ((h | h) | h)
   ·exact .inl (.inl h)
   ·exact .inr h
   ·exact .inl (.inr h)
  ·rintro ((h | h) | h)
   ·exact .inl (.inl h)
   ·exact .inr h
   ·exact .inl (.inr h)
theorem tkw_drop {l : List V2} {f : V2 → Bool} : l.takeWhile f = l.take (l.takeWhile f).length := by
  induction l with
  | nil => rfl
  | cons y l ih =>
    rw [List.takeWhile_cons]
    split
    · rw [List.length_cons, List.take_succ_cons, ← ih]
    · rfl
theorem tkw_next {l : List V2} {f : V2 → Bool} {x : V2} (h : l[(l.takeWhile f).length]? = some x) : f x = false := by
  induction l with
  | nil => simp at h
  | cons y l ih =>
    rw [List.takeWhile_cons] at h
    split at h
    · rw [List.length_cons, List.getElem?_cons_succ] at h; exact ih h
    · rename_i g; simp at h; subst h; simpa using g
abbrev Srt (l : List V2) : Prop := l.Pairwise fun x y => cmp2 x y < 0
theorem c_lt {p q : V2} : cmp2 p q < 0 ↔ le2 p q ∧ p ≠ q := by
 rw [cmp2_neg]
 constructor
 ·exact fun h => ⟨(le2_total p q).elim id fun g => absurd g h, fun e => h (e ▸ le2_refl p)⟩
 ·exact fun ⟨h1, h2⟩ h3 => h2 (le2_anti h1 h3)
theorem c_trans {p q r : V2} (h1 : cmp2 p q < 0) (h2 : cmp2 q r < 0) : cmp2 p r < 0 := by
 obtain ⟨a, b⟩ := c_lt.1 h1
 obtain ⟨c, _⟩ := c_lt.1 h2
 refine c_lt.2 ⟨le2_trans a c, fun e => ?_⟩
 subst e
 exact b (le2_anti a c)
theorem srt_put {l : List V2} {p : V2} (h : Srt l) : Srt (putF l p) := by
  unfold putF
  split
  · exact h
  · rename_i hne
    have ht : l.takeWhile (fun x => decide (cmp2 x p < 0)) = l.take (lowN l p) := tkw_drop
    have lo : ∀ x ∈ l.take (lowN l p), cmp2 x p < 0 := fun x hx => by
      rw [← ht] at hx
      simpa using tkw_all hx
    have hi : ∀ x ∈ l.drop (lowN l p), cmp2 p x < 0 := fun x hx => by
      cases g : l[lowN l p]? with
      | none => rw [List.drop_eq_nil_of_le (List.getElem?_eq_none_iff.1 g)] at hx; simp at hx
      | some y =>
        have n1 : ¬ cmp2 y p < 0 := by have := tkw_next g; simpa using this
        have n2 : y ≠ p := fun e => hne (by rw [g, e])
        have n3 : cmp2 p y < 0 := c_lt.2 ⟨(le2_total p y).elim id fun q => absurd (c_lt.2 ⟨q, n2⟩) n1, Ne.symm n2⟩
        obtain ⟨hk, hy⟩ := List.getElem?_eq_some_iff.1 g
        rw [List.drop_eq_getElem_cons hk, hy] at hx
        rcases List.mem_cons.1 hx with e | hx
        · rw [e]; exact n3
        · have hp := h.sublist (List.drop_sublist (lowN l p) l)
          rw [List.drop_eq_getElem_cons hk, hy] at hp
          exact c_trans n3 ((List.pairwise_cons.1 hp).1 x hx)
    have h1 := h.sublist (List.take_sublist (lowN l p) l)
    have h2 := h.sublist (List.drop_sublist (lowN l p) l)
    refine List.pairwise_append.2 ⟨List.pairwise_append.2 ⟨h1, List.pairwise_singleton _ _, fun x hx y hy => ?_⟩, h2, fun x hx y hy => ?_⟩
    · rw [List.mem_singleton.1 hy]; exact lo x hx
    · rcases List.mem_append.1 hx with hx | hx
      · exact c_trans (lo x hx) (hi y hy)
      · rw [List.mem_singleton.1 hx]; exact hi y hy
def endB (a b c d : V2) (l : List V2) (x : V2) : List V2 := if (onD a b x && onD c d x) = true then putF l x else l
def endsT (a b c d : V2) (k : Nat) : List V2 := ([a, b, c, d].take k).foldl (endB a b c d) []
abbrev endsF (a b c d : V2) : List V2 := endsT a b c d 4
theorem ends_succ {a b c d x : V2} {k : Nat} (h : [a, b, c, d][k]? = some x) : endsT a b c d (k + 1) = endB a b c d (endsT a b c d k) x := by
 unfold endsT
 rw [List.take_add_one, h, List.foldl_append]; rfl
theorem ends_fold {a b c d : V2} : ∀ (r l : List V2), Srt l → Srt (r.foldl (endB a b c d) l) ∧ ∀ x, x ∈ r.foldl (endB a b c d) l ↔ x ∈ l ∨ (x ∈ r ∧ Bo a b c d x)
  | [], l, h => ⟨h, fun x => by simp⟩
  | y :: r, l, h => by
    rw [List.foldl_cons]
    have hb : Srt (endB a b c d l y) ∧ ∀ x, x ∈ endB a b c d l y ↔ x ∈ l ∨ (x = y ∧ Bo a b c d y) := by
      unfold endB
      split
      · rename_i g
        rw [Bool.and_eq_true, onD_iff, onD_iff] at g
        exact ⟨srt_put h, fun x => by rw [put_mem]; exact ⟨fun q => q.imp id fun e => ⟨e, g⟩, fun q => q.imp id fun e => e.1⟩⟩
      · rename_i g
        rw [Bool.and_eq_true, onD_iff, onD_iff] at g
        exact ⟨h, fun x => ⟨.inl, fun q => q.elim id fun e => absurd e.2 g⟩⟩
    obtain ⟨i1, i2⟩ := ends_fold r _ hb.1
    refine ⟨i1, fun x => ?_⟩
    rw [i2, hb.2, List.mem_cons]
    constructor
    · rintro ((q | ⟨rfl, q⟩) | ⟨q, w⟩)
      · exact .inl q
      · exact .inr ⟨.inl rfl, q⟩
      · exact .inr ⟨.inr q, w⟩
    · rintro (q | ⟨rfl | q, w⟩)
      · exact .inl (.inl q)
      · exact .inl (.inr ⟨rfl, w⟩)
      · exact .inr ⟨q, w⟩
theorem ends_ok (a b c d : V2) (k : Nat) : Srt (endsT a b c d k) ∧ ∀ x, x ∈ endsT a b c d k ↔ x ∈ [a, b, c, d].take k ∧ Bo a b c d x := by
 obtain ⟨h1, h2⟩ := ends_fold (a := a) (b := b) (c := c) (d := d) ([a, b, c, d].take k) [] List.Pairwise.nil
 exact ⟨h1, fun x => by unfold endsT; rw [h2]; simp⟩
theorem ends_len (a b c d : V2) : ∀ k, (endsT a b c d k).length ≤ k
  | 0 => Nat.le_refl _
  | k + 1 => by
    have ih := ends_len a b c d k
    cases h : [a, b, c, d][k]? with
    | none =>
      have : endsT a b c d (k + 1) = endsT a b c d k := by
        have := List.getElem?_eq_none_iff.1 h
        unfold endsT; rw [List.take_of_length_le this, List.take_of_length_le (Nat.le_succ_of_le this)]
      rw [this]; omega
    | some x =>
      rw [ends_succ h]; unfold endB; split
      · have := put_len (endsT a b c d k) x; omega
      · omega
theorem mem_ends {a b c d x : V2} : x ∈ endsF a b c d ↔ (x = a ∨ x = b ∨ x = c ∨ x = d) ∧ Bo a b c d x := by
 rw [(ends_ok a b c d 4).2]; simp
def segR (a b c d : V2) : Int × V2 × V2 :=
 if 2 ≤ (endsF a b c d).length then (2, (endsF a b c d).getD 0 (0, 0), (endsF a b c d).getD ((endsF a b c d).length - 1) (0, 0))
 else if (endsF a b c d).length = 1 then (1, (endsF a b c d).getD 0 (0, 0), (endsF a b c d).getD 0 (0, 0))
 else if ¬ den a b c d = 0 ∧ onD a b (lnP a b c d) = true ∧ onD c d (lnP a b c d) = true then (1, lnP a b c d, lnP a b c d) else noMt
theorem seg_rest {a b c d P : V2} (hP : P = if den a b c d = 0 then (0, 0) else lnP a b c d) (n2 : ¬ 2 ≤ (endsF a b c d).length) (n1 : ¬ (endsF a b c d).length = 1) :
  segR a b c d = if (!decide (den a b c d = 0) && onD a b P && onD c d P) = true then (1, P, P) else noMt := by
 unfold segR
 rw [if_neg n2, if_neg n1]
 by_cases h : den a b c d = 0
 ·rw [if_neg (fun q => q.1 h), if_neg (by rw [decide_eq_true h]; simp)]
 ·rw [if_neg h] at hP
  rw [← hP, decide_eq_false h]
  cases onD a b P <;> cases onD c d P <;> simp [h]
theorem from_mem (a b : V2) : ((fromF a b).1 = a ∧ (fromF a b).2 = b) ∨ ((fromF a b).1 = b ∧ (fromF a b).2 = a) := by unfold fromF; split <;> simp
theorem kin_cases (a b c d : V2) : (kin a b c d = 2 → ∃ p q, p ∈ endsF a b c d ∧ q ∈ endsF a b c d ∧ p ≠ q) ∧ (kin a b c d = 1 → (∃ p, p ∈ endsF a b c d) ∨ ¬ den a b c d = 0) := by
 have hs := from_le a b
 have ht := from_le c d
 have fa := from_mem a b
 have fc := from_mem c d
 have lo : loF (fromF a b) (fromF c d) = (fromF a b).1 ∨ loF (fromF a b) (fromF c d) = (fromF c d).1 := by unfold loF; split <;> simp
 have hi : hiF (fromF a b) (fromF c d) = (fromF a b).2 ∨ hiF (fromF a b) (fromF c d) = (fromF c d).2 := by unfold hiF; split <;> simp
 have mem : ∀ p, (p = loF (fromF a b) (fromF c d) ∨ p = hiF (fromF a b) (fromF c d)) → hasB (fromF a b) p = true → hasB (fromF c d) p = true → p ∈ endsF a b c d := fun p hp h1 h2 => by
  rw [has_iff hs, from_on] at h1
  rw [has_iff ht, from_on] at h2
  refine mem_ends.2 ⟨?_, h1, h2⟩
  rcases hp with rfl | rfl
  ·rcases lo with e | e <;> rw [e]
   ·rcases fa with ⟨g, _⟩ | ⟨g, _⟩ <;> rw [g] <;> simp
   ·rcases fc with ⟨g, _⟩ | ⟨g, _⟩ <;> rw [g] <;> simp
  ·rcases hi with e | e <;> rw [e]
   ·rcases fa with ⟨_, g⟩ | ⟨_, g⟩ <;> rw [g] <;> simp
   ·rcases fc with ⟨_, g⟩ | ⟨_, g⟩ <;> rw [g] <;> simp
 have dd : den a b c d = 0 → den (fromF a b).1 (fromF a b).2 (fromF c d).1 (fromF c d).2 = 0 := fun h => by
  unfold den at h ⊢
  rcases fa with ⟨g1, g2⟩ | ⟨g1, g2⟩ <;> rcases fc with ⟨g3, g4⟩ | ⟨g3, g4⟩ <;> rw [g1, g2, g3, g4] <;> grind
 unfold kin mtF
 split
 ·exact ⟨fun e => absurd e (by decide), fun e => absurd e (by decide)⟩
 ·split
  ·rename_i _ h
   rw [Bool.and_eq_true, Bool.and_eq_true, Bool.and_eq_true] at h
   obtain ⟨⟨⟨h1, h2⟩, h3⟩, h4⟩ := h
   refine ⟨fun e => ⟨_, _, mem _ (.inl rfl) h1 h2, mem _ (.inr rfl) h3 h4, fun q => ?_⟩, fun _ => .inl ⟨_, mem _ (.inl rfl) h1 h2⟩⟩
   simp only at e
   rw [if_pos (cmp2_zero.2 q)] at e
   exact absurd e (by decide)
  ·split
   ·exact ⟨fun e => absurd e (by decide), fun e => absurd e (by decide)⟩
   ·rename_i g
    split
    ·exact ⟨fun e => absurd (show (1 : Int) = 2 from e) (by decide), fun _ => .inr fun h => g (dd h)⟩
    ·exact ⟨fun e => absurd e (by decide), fun e => absurd e (by decide)⟩
theorem seg_kin (a b c d : V2) : (segR a b c d).1 = kin a b c d := by
  obtain ⟨k2, k1⟩ := kin_cases a b c d
  have ks := kin_sem a b c d
  have srt := (ends_ok a b c d 4).1
  unfold segR
  split
  · rename_i h
    obtain ⟨l, hl⟩ : ∃ l, l = endsF a b c d := ⟨_, rfl⟩
    rw [← hl] at h
    match l, h with
    | x :: y :: r, _ =>
      have hx : x ∈ endsF a b c d := by rw [← hl]; simp
      have hy : y ∈ endsF a b c d := by rw [← hl]; simp
      have hxy : x ≠ y := by
        have : Srt (x :: y :: r) := by rw [hl]; exact srt
        exact (c_lt.1 ((List.pairwise_cons.1 this).1 y (by simp))).2
      have i1 := (mem_ends.1 hx).2
      have i2 := (mem_ends.1 hy).2
      rcases ks with ⟨_, e⟩ | ⟨_, p, _, e⟩ | ⟨e, _⟩
      · exact absurd i1 (e x)
      · exact absurd ((e x i1).trans (e y i2).symm) hxy
      · exact e.symm
  · rename_i h
    have n2 : kin a b c d ≠ 2 := fun e => by
      obtain ⟨p, q, hp, hq, hpq⟩ := k2 e
      obtain ⟨l, hl⟩ : ∃ l, l = endsF a b c d := ⟨_, rfl⟩
      rw [← hl] at h hp hq
      match l, h with
      | [], _ => simp at hp
      | [x], _ => rw [List.mem_singleton] at hp hq; exact hpq (hp.trans hq.symm)
      | x :: y :: r, h => simp at h
    split
    · rename_i h1
      obtain ⟨l, hl⟩ : ∃ l, l = endsF a b c d := ⟨_, rfl⟩
      rw [← hl] at h1
      match l, h1 with
      | [x], _ =>
        have hx : x ∈ endsF a b c d := by rw [← hl]; simp
        have i1 := (mem_ends.1 hx).2
        rcases ks with ⟨_, e⟩ | ⟨e, _⟩ | ⟨e, _⟩
        · exact absurd i1 (e x)
        · exact e.symm
        · exact absurd e n2
    · rename_i h1
      split
      · rename_i h2
        have i1 : Bo a b c d (lnP a b c d) := ⟨onD_iff.1 h2.2.1, onD_iff.1 h2.2.2⟩
        rcases ks with ⟨_, e⟩ | ⟨e, _⟩ | ⟨e, _⟩
        · exact absurd i1 (e _)
        · exact e.symm
        · exact absurd e n2
      · rename_i h2
        rcases ks with ⟨e, _⟩ | ⟨e, p, hp, _⟩ | ⟨e, _⟩
        · exact e.symm
        · exfalso
          rcases k1 e with ⟨q, hq⟩ | hd
          · obtain ⟨l, hl⟩ : ∃ l, l = endsF a b c d := ⟨_, rfl⟩
            rw [← hl] at h h1 hq
            match l, h, h1 with
            | [], _, _ => simp at hq
            | [x], _, h1 => simp at h1
            | x :: y :: r, h, _ => simp at h
          · have hl := lnP_on hd
            have : p = lnP a b c d := cross_one hd hp.1.1 hp.2.1 hl.1 hl.2
            exact h2 ⟨hd, by rw [← this]; exact onD_iff.2 hp.1, by rw [← this]; exact onD_iff.2 hp.2⟩
        · exact absurd e n2
end Num
namespace Go.Proofs
open Go Go.Sv Num
variable {G : Imm}
def Ps (p : RawP) (w : Nat) : Prop := ∃ kx ky, kx + ky ≤ w ∧ IsQ p.1.1 p.1.2.1 p.1.2.2 (qv p.1) kx ∧ IsQ p.2.1 p.2.2.1 p.2.2.2 (qv p.2) ky
theorem ps_raw {p : RawP} (hp : LimR p) : Ps p (tsz p + 2) := ⟨_, _, by unfold tsz; omega, isQ_sz hp.1.1 hp.1.2, isQ_sz hp.2.1 hp.2.2⟩
theorem ps_bq {v : V2} {k j : Nat} (h1 : Bq v.1 k) (h2 : Bq v.2 j) : Ps (rep v) (k + j) := by
 have e := pv_rep v
 have i1 : IsQ (rep v).1.1 (rep v).1.2.1 (rep v).1.2.2 v.1 k := isQ_can (h := h1)
 have i2 : IsQ (rep v).2.1 (rep v).2.2.1 (rep v).2.2.2 v.2 j := isQ_can (h := h2)
 refine ⟨k, j, Nat.le_refl _, ?_, ?_⟩
 ·rw [show qv (rep v).1 = v.1 from congrArg Prod.fst e]; exact i1
 ·rw [show qv (rep v).2 = v.2 from congrArg Prod.snd e]; exact i2
theorem ps_rep {p : RawP} {w : Nat} (h : Ps p w) : Ps (rep (pv p)) w := by
 obtain ⟨k, j, hw, h1, h2⟩ := h
 obtain ⟨k', j', hw', i⟩ := ps_bq (v := pv p) h1.bq h2.bq
 exact ⟨k', j', Nat.le_trans hw' hw, i⟩
theorem ps_le {p : RawP} {w u : Nat} (h : Ps p w) (hl : w ≤ u) : Ps p u := let ⟨k, j, hw, i⟩ := h; ⟨k, j, Nat.le_trans hw hl, i⟩
theorem subS {p q : RawP} {w u : Nat} (hp : Ps p w) (hq : Ps q u) (hs : 64 * (w + u) + 5000 ≤ 131072) : PSpec Tryz.prog G 42 [aggS (pc p), aggS (pc q)] (aggS (pc (rep (sub2 (pv p) (pv q))))) := by
 obtain ⟨k1, j1, hw, i1, i2⟩ := hp
 obtain ⟨k2, j2, hu, i3, i4⟩ := hq
 exact rpSub_spec (hx1 := i1) (hy1 := i2) (hx2 := i3) (hy2 := i4) (by omega)
theorem subS_ok {p q : RawP} {w u : Nat} (hp : Ps p w) (hq : Ps q u) : Ps (rep (sub2 (pv p) (pv q))) (w + u + 2) := by
 obtain ⟨k1, j1, hw, i1, i2⟩ := hp
 obtain ⟨k2, j2, hu, i3, i4⟩ := hq
 exact ps_le (ps_bq (bq_sub (hp := i1.bq) (hq := i3.bq)) (bq_sub (hp := i2.bq) (hq := i4.bq))) (by omega)
theorem crossS {p q : RawP} {w u : Nat} (hp : Ps p w) (hq : Ps q u) (hs : 64 * (w + u) + 5000 ≤ 131072) : PSpec Tryz.prog G 62 [aggS (pc p), aggS (pc q)] (aggS (canQ (x2 (pv p) (pv q)))) := by
 obtain ⟨k1, j1, hw, i1, i2⟩ := hp
 obtain ⟨k2, j2, hu, i3, i4⟩ := hq
 exact rpCross_spec (hx1 := i1) (hy1 := i2) (hx2 := i3) (hy2 := i4) (by omega)
theorem crossS_ok {p q : RawP} {w u : Nat} (hp : Ps p w) (hq : Ps q u) : Bq (x2 (pv p) (pv q)) (w + u + 1) := by
 obtain ⟨k1, j1, hw, i1, i2⟩ := hp
 obtain ⟨k2, j2, hu, i3, i4⟩ := hq
 have := i1.bq; have := i2.bq; have := i3.bq; have := i4.bq
 show Bq ((pv p).1 * (pv q).2 - (pv p).2 * (pv q).1) _
 exact bq_le (k := k1 + j2 + (j1 + k2) + 1) (bq_sub (hp := bq_mul (hp := i1.bq) (hq := i4.bq)) (hq := bq_mul (hp := i2.bq) (hq := i3.bq))) (by omega)
theorem atS {p q : RawP} {t : Rat} {w u k : Nat} (hp : Ps p w) (hq : Ps q u) (ht : Bq t k) (hs : 128 * (w + u + 2 * k) + 6000 ≤ 131072) : PSpec Tryz.prog G 27 [aggS (pc p), aggS (pc q), aggS (canQ t)] (aggS (pc (rep (atP (pv p) (pv q) t)))) := by
 obtain ⟨k1, j1, hw, i1, i2⟩ := hp
 obtain ⟨k2, j2, hu, i3, i4⟩ := hq
 exact rpAt_spec (hx1 := i1) (hy1 := i2) (hx2 := i3) (hy2 := i4) (ht := isQ_can (h := ht)) (by omega)
theorem atS_ok {p q : RawP} {t : Rat} {w u k : Nat} (hp : Ps p w) (hq : Ps q u) (ht : Bq t k) : Ps (rep (atP (pv p) (pv q) t)) (2 * w + u + 2 * k + 4) := by
 obtain ⟨k1, j1, hw, i1, i2⟩ := hp
 obtain ⟨k2, j2, hu, i3, i4⟩ := hq
 exact ps_le (ps_bq (v := atP (pv p) (pv q) t) (bq_add (hp := i1.bq) (hq := bq_mul (hp := bq_sub (hp := i3.bq) (hq := i1.bq)) (hq := ht))) (bq_add (hp := i2.bq) (hq := bq_mul (hp := bq_sub (hp := i4.bq) (hq := i2.bq)) (hq := ht)))) (by omega)
theorem tri_le_z {q : Rat} : tri q 0 ≤ 0 ↔ q ≤ 0 := by unfold tri; split <;> (try split) <;> constructor <;> intro h <;> first | grind | (exfalso; grind)
theorem get4 {a b c d : RawP} {w g : Nat} (ha : Ps a w) (hb : Ps b w) (hc : Ps c w) (hd : Ps d w) (hg : g < 4) : ∃ x, [a, b, c, d][g]? = some x ∧ Ps x w ∧ [pv a, pv b, pv c, pv d][g]? = some (pv x) := by
 match g, hg with
 | 0, _ => exact ⟨a, rfl, ha, rfl⟩
 | 1, _ => exact ⟨b, rfl, hb, rfl⟩
 | 2, _ => exact ⟨c, rfl, hc, rfl⟩
 | 3, _ => exact ⟨d, rfl, hd, rfl⟩
theorem ends_ps {a b c d : RawP} {w g : Nat} (ha : Ps a w) (hb : Ps b w) (hc : Ps c w) (hd : Ps d w) : ∀ y ∈ endsT (pv a) (pv b) (pv c) (pv d) g, Ps (rep y) w := fun y hy => by
 have := List.mem_of_mem_take (((ends_ok ..).2 y).1 hy).1
 simp only [List.mem_cons, List.not_mem_nil, or_false] at this
 rcases this with rfl | rfl | rfl | rfl <;> apply ps_rep <;> assumption
theorem dotS {p q : RawP} {w u : Nat} (hp : Ps p w) (hq : Ps q u) (hs : 64 * (w + u) + 5000 ≤ 131072) : PSpec Tryz.prog G 229 [aggS (pc p), aggS (pc q)] (aggS (canQ ((pv p).1 * (pv q).1 + (pv p).2 * (pv q).2))) := by
 obtain ⟨k1, j1, hw, i1, i2⟩ := hp
 obtain ⟨k2, j2, hu, i3, i4⟩ := hq
 exact rpDot_spec (hx1 := i1) (hy1 := i2) (hx2 := i3) (hy2 := i4) (by omega)
theorem dotS_ok {p q : RawP} {w u : Nat} (hp : Ps p w) (hq : Ps q u) : Bq ((pv p).1 * (pv q).1 + (pv p).2 * (pv q).2) (w + u + 1) := by
 obtain ⟨k1, j1, hw, i1, i2⟩ := hp
 obtain ⟨k2, j2, hu, i3, i4⟩ := hq
 exact bq_le (k := k1 + k2 + (j1 + j2) + 1) (bq_add (hp := bq_mul (hp := i1.bq) (hq := i3.bq)) (hq := bq_mul (hp := i2.bq) (hq := i4.bq))) (by omega)
theorem cmpS {p q : RawP} {w u : Nat} (hp : Ps p w) (hq : Ps q u) (hs : 64 * (w + u) + 5000 ≤ 131072) : PSpec Tryz.prog G 164 [aggS (pc p), aggS (pc q)] (intS .i64 (cmp2 (pv p) (pv q))) := by
 obtain ⟨k1, j1, hw, i1, i2⟩ := hp
 obtain ⟨k2, j2, hu, i3, i4⟩ := hq
 exact rpCmp_spec (hx1 := i1) (hy1 := i2) (hx2 := i3) (hy2 := i4) (by omega)
theorem sameS {p q : RawP} {w u : Nat} (hp : Ps p w) (hq : Ps q u) (hs : 64 * (w + u) + 5000 ≤ 131072) : PSpec Tryz.prog G 120 [aggS (pc p), aggS (pc q)] (boolS (decide (pv p = pv q))) := by
 obtain ⟨k1, j1, hw, i1, i2⟩ := hp
 obtain ⟨k2, j2, hu, i3, i4⟩ := hq
 have h : PSpec Tryz.prog G 120 [aggS (pc p), aggS (pc q)] (boolS (decide ((pv p).1 = (pv q).1 ∧ (pv p).2 = (pv q).2))) := rpSame_spec (hx1 := i1) (hy1 := i2) (hx2 := i3) (hy2 := i4) (by omega)
 rw [decide_eq_decide.2 (show (pv p = pv q ↔ (pv p).1 = (pv q).1 ∧ (pv p).2 = (pv q).2) from Prod.ext_iff)]
 exact h
theorem normS {p : RawP} {w : Nat} (hp : Ps p w) (hw : 64 * w + 2000 ≤ 131072) : PSpec Tryz.prog G 89 [slS 6 id [pc p]] (slS 6 pcan [pv p]) := by
 obtain ⟨k1, j1, hw1, i1, i2⟩ := hp
 have h := rpNorm_spec (G := G) (xs := [p]) (k := max k1 j1) (by have := i1.pos; omega) (fun q hq => by
  rw [List.mem_singleton.1 hq]
  exact ⟨⟨i1.lim, i1.limd, by have := i1.len; omega, by have := i1.lend; omega⟩, i2.lim, i2.limd, by have := i2.len; omega, by have := i2.lend; omega⟩) (by omega) (show 1 ≤ cap by decide)
 exact h.args ⟨fun I v h => sl_map (f := pc) (l := [p]) h, trivial⟩
theorem ron_spec {a b p : RawP} {w u v : Nat} (ha : Ps a w) (hb : Ps b u) (hp : Ps p v) (hs : 64 * (2 * w + u + 2 * v + 5) + 5000 ≤ 131072) : PSpec Tryz.prog G 204 [aggS (pc a), aggS (pc b), aggS (pc p)] (boolS (onD (pv a) (pv b) (pv p))) := by
 have c1 := subS_ok hb ha
 have c2 := subS_ok hp ha
 have c3 := subS_ok hp hb
 have c4 := crossS_ok c1 c2
 have c5 := dotS_ok c2 c3
 rw [pv_rep, pv_rep] at c4 c5
 have c4 : Bq (cr (pv a) (pv b) (pv p)) _ := c4
 have c5 : Bq (dt (pv a) (pv b) (pv p)) _ := c5
 refine zs Tryz.func204 ?_;refine zr ?_;(iterate 4 refine zz ?_);refine zzn ?_;refine T_seq ?_;refine T_drawS 9 (by kernel_rfl) ?_;refine zo ((show OpOK _ _ _ _ _ (aggS (pc (b))) from ok_load_agg rfl rfl rfl rfl)) ?_;refine zo ((show OpOK _ _ _ _ _ (aggS (pc (a))) from ok_load_agg rfl rfl rfl rfl)) ?_;refine zo (ok_call rfl rfl (subS hb ha (by omega))) ?_;refine zo ((show OpOK _ _ _ _ _ (aggS (pc (p))) from ok_load_agg rfl rfl rfl rfl)) ?_;refine zo ((show OpOK _ _ _ _ _ (aggS (pc (a))) from ok_load_agg rfl rfl rfl rfl)) ?_;refine zo (ok_call rfl rfl (subS hp ha (by omega))) ?_;refine zo (ok_call rfl rfl (show PSpec _ _ _ _ (aggS (canQ (cr (pv a) (pv b) (pv p)))) from by have h := crossS (G := G) c1 c2 (by omega); rw [pv_rep, pv_rep] at h; exact h)) ?_;refine zo (ok_call rfl rfl (show PSpec _ _ _ _ (intS .i64 (tri (cr (pv a) (pv b) (pv p)) 0)) from rqSign_spec (by omega))) ?_;refine zz ?_;(iterate 2 refine zzn ?_);refine zzc (fun h15 => ?_) fun h15 => ?_
 ·have k15 := bne_iff_ne.1 h15
  have e0 : ¬ cr (pv a) (pv b) (pv p) = 0 := fun e => k15 (by rw [e]; rfl)
  refine zr ?_;refine zz ?_;refine zzn ?_;refine T_ret ?_
  exact ⟨_, [], .one (.tmp rfl), List.nil_sublist _, by unfold onD; rw [decide_eq_false e0]; rfl, rfl⟩
 ·have k15 := bne_eq_false_iff_eq.1 h15
  have e0 : cr (pv a) (pv b) (pv p) = 0 := tri_eq.1 k15
  refine T_skip ?_;refine T_drawS 10 (by kernel_rfl) ?_;refine zo ((show OpOK _ _ _ _ _ (aggS (pc (p))) from ok_load_agg rfl rfl rfl rfl)) ?_;refine zo ((show OpOK _ _ _ _ _ (aggS (pc (a))) from ok_load_agg rfl rfl rfl rfl)) ?_;refine zo (ok_call rfl rfl (subS hp ha (by omega))) ?_;refine zo ((show OpOK _ _ _ _ _ (aggS (pc (p))) from ok_load_agg rfl rfl rfl rfl)) ?_;refine zo ((show OpOK _ _ _ _ _ (aggS (pc (b))) from ok_load_agg rfl rfl rfl rfl)) ?_;refine zo (ok_call rfl rfl (subS hp hb (by omega))) ?_;refine zo (ok_call rfl rfl (show PSpec _ _ _ _ (aggS (canQ (dt (pv a) (pv b) (pv p)))) from by have h := dotS (G := G) c2 c3 (by omega); rw [pv_rep, pv_rep] at h; exact h)) ?_;refine zo (ok_call rfl rfl (show PSpec _ _ _ _ (intS .i64 (tri (dt (pv a) (pv b) (pv p)) 0)) from rqSign_spec (by omega))) ?_;(iterate 2 refine zz ?_);(iterate 2 refine zzn ?_);refine T_ret ?_
  exact ⟨_, [], .one (.tmp rfl), List.nil_sublist _, by unfold onD; rw [decide_eq_true e0, Bool.true_and]; exact congrArg boolS (decide_eq_decide.2 tri_le_z), rfl⟩
theorem rput_spec {l : List V2} {p : RawP} {w : Nat} (hl : ∀ x ∈ l, Ps (rep x) w) (hp : Ps p w) (hs : 128 * w + 5000 ≤ 131072) (hn : l.length ≤ 1000) : PSpec Tryz.prog G 227 [slS 6 pcan l, aggS (pc p)] (slS 6 pcan (putF l (pv p))) := by
 refine zs Tryz.func227 ?_;refine zr ?_;(iterate 2 refine zz ?_);refine zx ?_;refine zz ?_;refine zzn ?_;refine T_seq ?_;refine T_block ?_
 refine T_loop (γ := Nat) (fun k => ⟨_, [(5, intS .i64 (k : Nat)), (3, ptrS (pc p)), (0, slS 6 pcan l)], [], [], (0, false)⟩) (fun k => k ≤ l.length ∧ ∀ x ∈ l.take k, cmp2 x (pv p) < 0) (fun k => l.length - k) 0 ⟨Nat.zero_le _, fun x hx => by simp at hx⟩ (ent_g (subG_cons rfl (subG_cons rfl (subG_cons rfl (trivial))))) ?_
 rintro k ⟨hk, hlo⟩
 refine T_seq ?_;refine T_drawS 13 (by kernel_rfl) ?_;(iterate 3 refine zz ?_)
 refine Run.oneB (ok_cmp rfl rfl rfl rfl) rfl rfl rfl (fun h2_3 => ?_) (fun h2_3 => ?_)
 ·have k2_3 := of_decide_eq_true h2_3
  have hkl : k < l.length := by omega
  obtain ⟨x, hx⟩ : ∃ x, l[k]? = some x := ⟨_, List.getElem?_eq_getElem hkl⟩
  have ox := hl x (List.mem_of_getElem? hx)
  (iterate 3 refine zz ?_);refine zo (ok_indexAddr rfl rfl rfl (by omega) (y := x) (hx)) ?_;refine zo ((show OpOK _ _ _ _ _ (aggS (pc (rep x))) from ok_load_agg rfl rfl rfl rfl)) ?_;refine zo ((show OpOK _ _ _ _ _ (aggS (pc (p))) from ok_load_agg rfl rfl rfl rfl)) ?_;refine zo (ok_call rfl rfl (show PSpec _ _ _ _ (intS .i64 (cmp2 x (pv p))) from by have h := cmpS (G := G) ox hp (by omega); rw [pv_rep] at h; exact h)) ?_;(iterate 2 refine zz ?_);(iterate 2 refine zzn ?_);refine zzc (fun h19 => ?_) fun h19 => ?_
  ·have k19 := of_decide_eq_true h19
   refine T_skip ?_;refine T_block ?_;refine T_region ?_;refine zz ?_;refine za ((k + 1 : Nat) : Int) ?_;refine zz ?_;refine zzn ?_
   exact ⟨k + 1, ⟨by omega, fun y hy => by
    rw [List.take_add_one, hx] at hy
    rcases List.mem_append.1 hy with hy | hy
    ·exact hlo y hy
    ·simp at hy; subst hy; omega⟩, by omega, ent_g zk⟩
  ·have k19 := of_decide_eq_false h19
   have hlow : k = lowN l (pv p) := low_eq hk hlo fun y hy => by rw [hx] at hy; cases hy; omega
   refine T_exit ?_;refine T_seq ?_;refine T_drawS 12 (by kernel_rfl) ?_;(iterate 3 refine zz ?_);refine zo ((ok_cmp rfl rfl rfl rfl).sub (bool_eq (c := true) (decide_eq_true (by omega)))) ?_;(iterate 3 refine zz ?_);refine zo (ok_indexAddr rfl rfl rfl (by omega) (y := x) (hx)) ?_;refine zo ((show OpOK _ _ _ _ _ (aggS (pc (rep x))) from ok_load_agg rfl rfl rfl rfl)) ?_;refine zo ((show OpOK _ _ _ _ _ (aggS (pc (p))) from ok_load_agg rfl rfl rfl rfl)) ?_;refine zo (ok_call rfl rfl (show PSpec _ _ _ _ (boolS (decide (x = pv p))) from by have h := sameS (G := G) ox hp (by omega); rw [pv_rep] at h; exact h)) ?_;refine zz ?_;(iterate 2 refine zzn ?_);refine zzc (fun h33 => ?_) fun h33 => ?_
   ·refine zr ?_;(iterate 2 refine zz ?_);refine zzn ?_;refine T_ret ?_
    exact ⟨_, [], .one (.tmp rfl), List.nil_sublist _, by rw [put_hit hlow hx (of_decide_eq_true h33)], rfl⟩
   ·have hmiss : putF l (pv p) = l.take k ++ [pv p] ++ l.drop k := put_miss hlow fun y hy => by rw [hx] at hy; cases hy; exact of_decide_eq_false h33
    refine T_skip ?_;refine zr ?_;refine Run.buildRow rfl rfl rfl rfl rfl rfl (by decide) rfl (.inl rfl) rfl rfl fun b35 hb35 => ?_;(iterate 2 refine zz ?_);refine zo ((ok_slice (lo := 0) (hi := k) (m := 0) rfl rfl (.inl ⟨rfl, rfl⟩) (.inr ⟨_, _, rfl, rfl⟩) (.inl rfl) (by omega) (by omega)).sub (show ∀ I v, (slS 6 pcan ((l.take k).drop 0)).den I v → (slS 6 pcan (l.take k)).den I v from fun I v h => by rw [List.drop_zero] at h; exact h)) ?_;refine Run.append 0 rfl rfl rfl rfl rfl rfl rfl rfl hb35 rfl (fun z hz => rfl) (by unfold big; simp; omega) (by unfold big; simp; omega) fun q39 hq39 => ?_;refine zz ?_;refine zzn ?_;refine T_drawMPS [0, 1, 2, 3, 5, 6, 7, 4, 8, 9] 9 [7, 8] _ (by kernel_rfl) (by kernel_rfl) (.cons _ .slnil) ?_;refine RunE.one (ok_move rfl rfl) rfl rfl rfl (by kernel_rfl) ?_;refine RunE.one ((show OpOK _ _ _ _ _ (aggS (pc (p))) from ok_load_agg rfl rfl rfl rfl)) rfl rfl rfl (by kernel_rfl) ?_;refine RunE.one (ok_buildSlice rfl rfl (by decide) rfl (by simp) (by kernel_rfl) (by kernel_rfl)) rfl rfl rfl (by kernel_rfl) ?_;refine RunE.one (ok_call rfl rfl (normS hp (by omega))) rfl rfl rfl (by kernel_rfl) ?_;(iterate 2 refine RunE.lat (ok_move rfl rfl) rfl rfl rfl ?_);refine RunE.lat ((ok_slice (lo := k) (hi := l.length) (m := 0) rfl rfl (.inr ⟨_, _, rfl, rfl⟩) (.inl ⟨rfl, rfl, rfl⟩) (.inl rfl) (by omega) (by omega)).sub (show ∀ I v, (slS 6 pcan ((l.take l.length).drop k)).den I v → (slS 6 pcan (l.drop k)).den I v from fun I v h => by rw [List.take_length] at h; exact h)) rfl rfl rfl ?_
    refine RunE.nil ⟨_, rfl, ?_⟩
    refine EffM.append 0 rfl rfl rfl rfl rfl rfl rfl hq39 (by show (List.flatMap pcan (l.take k)).length = _; rw [flat_pcan, Nat.zero_add]) (fun z hz => rfl) (by unfold big; simp; omega) (by unfold big; simp; omega) fun q44 hq44 => ⟨(.cons _ .slnil), ?_⟩
    refine RunE.nil ⟨_, rfl, ?_⟩
    refine EffM.append 0 rfl rfl rfl rfl rfl rfl rfl hq44 (by show (List.flatMap pcan (l.take k) ++ [pv p].flatMap pcan).length = _; rw [← List.flatMap_append, flat_pcan, List.length_append, Nat.zero_add]) (fun z hz => rfl) (by unfold big; simp; omega) (by unfold big; simp; omega) fun q48 hq48 => ⟨(.cons _ .slnil), ?_⟩
    refine RunE.nil ?_;refine Run.ghost _ rfl (ghost_sl 0 48 rfl rfl hq48 (l := putF l (pv p)) (f := pcan) (by rw [hmiss, List.length_append, List.length_append, Nat.zero_add]) (by rw [hmiss]; simp [List.flatMap_append]) (fun _ _ => rfl) (by rw [List.length_take, List.length_drop, List.length_singleton]; unfold big; omega)) ?_;refine zz ?_;refine zzn ?_;refine T_ret ?_
    exact ⟨_, [], .one (.tmp rfl), List.nil_sublist _, rfl, rfl⟩
 ·have k2_3 := of_decide_eq_false h2_3
  have hke : k = l.length := by omega
  have hlow : k = lowN l (pv p) := low_eq hk hlo fun x hx => by rw [hke, List.getElem?_eq_none (Nat.le_refl _)] at hx; cases hx
  have hmiss : putF l (pv p) = l.take k ++ [pv p] ++ l.drop k := put_miss hlow fun x hx => by rw [hke, List.getElem?_eq_none (Nat.le_refl _)] at hx; cases hx
  refine zz ?_;(iterate 7 refine zq ?_);refine zz ?_;(iterate 2 refine zzn ?_);refine T_condF rfl rfl ?_;refine T_exit ?_;refine T_seq ?_;refine T_drawS 12 (by kernel_rfl) ?_;(iterate 3 refine zz ?_);refine zo ((ok_cmp rfl rfl rfl rfl).sub (bool_eq (c := false) (decide_eq_false (by omega)))) ?_;refine zz ?_;(iterate 6 refine zq ?_);refine zz ?_;(iterate 2 refine zzn ?_);refine T_condF rfl rfl ?_;refine T_skip ?_;refine zr ?_;refine Run.buildRow rfl rfl rfl rfl rfl rfl (by decide) rfl (.inl rfl) rfl rfl fun b35 hb35 => ?_;(iterate 2 refine zz ?_);refine zo ((ok_slice (lo := 0) (hi := k) (m := 0) rfl rfl (.inl ⟨rfl, rfl⟩) (.inr ⟨_, _, rfl, rfl⟩) (.inl rfl) (by omega) (by omega)).sub (show ∀ I v, (slS 6 pcan ((l.take k).drop 0)).den I v → (slS 6 pcan (l.take k)).den I v from fun I v h => by rw [List.drop_zero] at h; exact h)) ?_;refine Run.append 0 rfl rfl rfl rfl rfl rfl rfl rfl hb35 rfl (fun z hz => rfl) (by unfold big; simp; omega) (by unfold big; simp; omega) fun q39 hq39 => ?_;refine zz ?_;refine zzn ?_;refine T_drawMPS [0, 1, 2, 3, 5, 6, 7, 4, 8, 9] 9 [7, 8] _ (by kernel_rfl) (by kernel_rfl) (.cons _ .slnil) ?_;refine RunE.one (ok_move rfl rfl) rfl rfl rfl (by kernel_rfl) ?_;refine RunE.one ((show OpOK _ _ _ _ _ (aggS (pc (p))) from ok_load_agg rfl rfl rfl rfl)) rfl rfl rfl (by kernel_rfl) ?_;refine RunE.one (ok_buildSlice rfl rfl (by decide) rfl (by simp) (by kernel_rfl) (by kernel_rfl)) rfl rfl rfl (by kernel_rfl) ?_;refine RunE.one (ok_call rfl rfl (normS hp (by omega))) rfl rfl rfl (by kernel_rfl) ?_;(iterate 2 refine RunE.lat (ok_move rfl rfl) rfl rfl rfl ?_);refine RunE.lat ((ok_slice (lo := k) (hi := l.length) (m := 0) rfl rfl (.inr ⟨_, _, rfl, rfl⟩) (.inl ⟨rfl, rfl, rfl⟩) (.inl rfl) (by omega) (by omega)).sub (show ∀ I v, (slS 6 pcan ((l.take l.length).drop k)).den I v → (slS 6 pcan (l.drop k)).den I v from fun I v h => by rw [List.take_length] at h; exact h)) rfl rfl rfl ?_
  refine RunE.nil ⟨_, rfl, ?_⟩
  refine EffM.append 0 rfl rfl rfl rfl rfl rfl rfl hq39 (by show (List.flatMap pcan (l.take k)).length = _; rw [flat_pcan, Nat.zero_add]) (fun z hz => rfl) (by unfold big; simp; omega) (by unfold big; simp; omega) fun q44 hq44 => ⟨(.cons _ .slnil), ?_⟩
  refine RunE.nil ⟨_, rfl, ?_⟩
  refine EffM.append 0 rfl rfl rfl rfl rfl rfl rfl hq44 (by show (List.flatMap pcan (l.take k) ++ [pv p].flatMap pcan).length = _; rw [← List.flatMap_append, flat_pcan, List.length_append, Nat.zero_add]) (fun z hz => rfl) (by unfold big; simp; omega) (by unfold big; simp; omega) fun q48 hq48 => ⟨(.cons _ .slnil), ?_⟩
  refine RunE.nil ?_;refine Run.ghost _ rfl (ghost_sl 0 48 rfl rfl hq48 (l := putF l (pv p)) (f := pcan) (by rw [hmiss, List.length_append, List.length_append, Nat.zero_add]) (by rw [hmiss]; simp [List.flatMap_append]) (fun _ _ => rfl) (by rw [List.length_take, List.length_drop, List.length_singleton]; unfold big; omega)) ?_;refine zz ?_;refine zzn ?_;refine T_ret ?_
  exact ⟨_, [], .one (.tmp rfl), List.nil_sublist _, rfl, rfl⟩
theorem rends_spec {a b c d : RawP} {w : Nat} (ha : Ps a w) (hb : Ps b w) (hc : Ps c w) (hd : Ps d w) (hs : 64 * (5 * w + 5) + 5000 ≤ 131072) : PSpec Tryz.prog G 202 [aggS (pc a), aggS (pc b), aggS (pc c), aggS (pc d)] (slS 6 pcan (endsF (pv a) (pv b) (pv c) (pv d))) := by
 refine zs Tryz.func202 ?_;refine zr ?_;(iterate 5 refine zz ?_);refine zx ?_;refine zo ((ok_assign rfl rfl).sub (show ∀ I v, (eqS (.slice none 0 0)).den I v → (slS 6 pcan (endsT (pv a) (pv b) (pv c) (pv d) 0)).den I v from fun I v h => by cases h; exact nil_sl)) ?_;refine zx ?_;refine zo ((show OpOK _ _ _ _ _ (aggS (pc (a))) from ok_load_agg rfl rfl rfl rfl)) ?_;refine zo ((show OpOK _ _ _ _ _ (aggS (pc (b))) from ok_load_agg rfl rfl rfl rfl)) ?_;refine zo ((show OpOK _ _ _ _ _ (aggS (pc (c))) from ok_load_agg rfl rfl rfl rfl)) ?_;refine zo ((show OpOK _ _ _ _ _ (aggS (pc (d))) from ok_load_agg rfl rfl rfl rfl)) ?_;refine zo (ok_buildSlice rfl rfl (by decide) rfl (by simp) (by kernel_rfl) (by kernel_rfl)) ?_;refine zz ?_;refine zzn ?_;refine T_seq ?_;refine zr ?_;refine zz ?_;refine zzn ?_;refine T_block ?_;refine T_loop (γ := Nat) (fun g => ⟨_, [(11, intS .i64 (g : Nat)), (9, slS 6 pcan (endsT (pv a) (pv b) (pv c) (pv d) g)), (10, slS 6 pc [a, b, c, d]), (7, ptrS (pc d)), (6, ptrS (pc c)), (5, ptrS (pc b)), (4, ptrS (pc a))], [], [], (0, false)⟩) (fun g => g ≤ 4) (fun g => 4 - g) 0 (Nat.zero_le _) (ent_g (subG_cons rfl (subG_cons rfl ⟨⟨_, rfl, fun I v h => sl_map (f := pc) (l := [a, b, c, d]) h⟩, zk⟩))) ?_
 intro g hg
 refine T_seq ?_;refine zr ?_;(iterate 2 refine zz ?_);refine zzn ?_;refine zzc (fun h18 => ?_) fun h18 => ?_
 ·have k18 := of_decide_eq_true h18
  obtain ⟨x, hx, ox, hv⟩ := get4 ha hb hc hd (show g < 4 by omega)
  have hsc := ends_succ hv
  refine T_skip ?_;refine T_seq ?_;refine T_block ?_;refine T_drawS 16 (by kernel_rfl) ?_;refine zo ((show OpOK _ _ _ _ _ (aggS (pc (a))) from ok_load_agg rfl rfl rfl rfl)) ?_;refine zo ((show OpOK _ _ _ _ _ (aggS (pc (b))) from ok_load_agg rfl rfl rfl rfl)) ?_;(iterate 2 refine zz ?_);refine zo (ok_indexAddr rfl rfl rfl (by omega) (y := x) (hx)) ?_;refine zo ((show OpOK _ _ _ _ _ (aggS (pc (x))) from ok_load_agg rfl rfl rfl rfl)) ?_
  refine Run.oneB (ok_call rfl rfl (ron_spec ha hb ox (by omega))) rfl rfl rfl (fun h6_6 => ?_) (fun h6_6 => ?_)
  ·refine zz ?_;refine zo ((show OpOK _ _ _ _ _ (aggS (pc (c))) from ok_load_agg rfl rfl rfl rfl)) ?_;refine zo ((show OpOK _ _ _ _ _ (aggS (pc (d))) from ok_load_agg rfl rfl rfl rfl)) ?_;(iterate 2 refine zz ?_);refine zo (ok_indexAddr rfl rfl rfl (by omega) (y := x) (hx)) ?_;refine zo ((show OpOK _ _ _ _ _ (aggS (pc (x))) from ok_load_agg rfl rfl rfl rfl)) ?_;refine zo (ok_call rfl rfl (ron_spec hc hd ox (by omega))) ?_;refine zz ?_;(iterate 2 refine zzn ?_);refine zzc (fun h36 => ?_) fun h36 => ?_
   ·refine T_region ?_;(iterate 3 refine zz ?_);refine zo (ok_indexAddr rfl rfl rfl (by omega) (y := x) (hx)) ?_;refine zo ((show OpOK _ _ _ _ _ (aggS (pc (x))) from ok_load_agg rfl rfl rfl rfl)) ?_;refine zo (ok_call rfl rfl (rput_spec (ends_ps ha hb hc hd) ox (by omega) (by have := ends_len (pv a) (pv b) (pv c) (pv d) g; omega))) ?_;refine zz ?_;refine zzn ?_;refine T_region ?_;refine zz ?_;refine za ((g + 1 : Nat) : Int) ?_;refine zz ?_;refine zzn ?_
    exact ⟨g + 1, (by omega : g + 1 ≤ 4), by omega, ent_g (subG_cons rfl (subG_as rfl (by rw [hsc]; unfold endB; rw [if_pos (by rw [h6_6, h36]; rfl)]) (subG_cons rfl (subG_cons rfl (subG_cons rfl (subG_cons rfl (subG_cons rfl (trivial))))))))⟩
   ·refine T_skip ?_;refine T_region ?_;refine zz ?_;refine za ((g + 1 : Nat) : Int) ?_;refine zz ?_;refine zzn ?_
    exact ⟨g + 1, (by omega : g + 1 ≤ 4), by omega, ent_g (subG_cons rfl (subG_as rfl (by rw [hsc]; unfold endB; rw [if_neg (by rw [h6_6, h36]; decide)]) (subG_cons rfl (subG_cons rfl (subG_cons rfl (subG_cons rfl (subG_cons rfl (trivial))))))))⟩
  ·refine zz ?_;(iterate 7 refine zq ?_);refine zz ?_;(iterate 2 refine zzn ?_);refine T_condF rfl rfl ?_;refine T_skip ?_;refine T_region ?_;refine zz ?_;refine za ((g + 1 : Nat) : Int) ?_;refine zz ?_;refine zzn ?_
   exact ⟨g + 1, (by omega : g + 1 ≤ 4), by omega, ent_g (subG_cons rfl (subG_as rfl (by rw [hsc]; unfold endB; rw [if_neg (by rw [h6_6]; simp)]) (subG_cons rfl (subG_cons rfl (subG_cons rfl (subG_cons rfl (subG_cons rfl (trivial))))))))⟩
 ·have k18 := of_decide_eq_false h18
  obtain rfl : g = 4 := by omega
  refine T_exit ?_;refine zr ?_;(iterate 2 refine zz ?_);refine zzn ?_;refine T_ret ?_
  exact ⟨_, [], .one (.tmp rfl), List.nil_sublist _, rfl, rfl⟩
theorem rcrossL_spec {a b c d : RawP} {wa wb wc wd : Nat} (ha : Ps a wa) (hb : Ps b wb) (hc : Ps c wc) (hd : Ps d wd) (hs : 128 * (5 * wa + 3 * wb + 6 * wc + 4 * wd + 20) + 6000 ≤ 131072) : PSpec Tryz.prog G 203 [aggS (pc a), aggS (pc b), aggS (pc c), aggS (pc d)] (tupS [aggS (pcan (if den (pv a) (pv b) (pv c) (pv d) = 0 then (0, 0) else lnP (pv a) (pv b) (pv c) (pv d))), boolS (!decide (den (pv a) (pv b) (pv c) (pv d) = 0))]) := by
 have c1 := subS_ok hb ha
 have c2 := subS_ok hd hc
 have c3 := subS_ok hc ha
 have c4 := crossS_ok c1 c2
 have c5 := crossS_ok c3 c2
 rw [pv_rep, pv_rep] at c4 c5
 have c4 : Bq (den (pv a) (pv b) (pv c) (pv d)) _ := c4
 have c6 : Bq (lnR (pv a) (pv b) (pv c) (pv d)) _ := bq_div (hp := c5) (hq := c4)
 refine zs Tryz.func203 ?_;refine zr ?_;(iterate 4 refine zz ?_);refine zzv fun b8 => ?_;refine zz ?_;refine zzn ?_;refine T_draw2S 6 (by kernel_rfl) rfl rfl rfl rfl ?_;refine RunE.lat ((show OpOK _ _ _ _ _ (aggS (pc (b))) from ok_load_agg rfl rfl rfl rfl)) rfl rfl rfl ?_;refine RunE.lat ((show OpOK _ _ _ _ _ (aggS (pc (a))) from ok_load_agg rfl rfl rfl rfl)) rfl rfl rfl ?_;refine RunE.lat (ok_call rfl rfl (subS hb ha (by omega))) rfl rfl rfl ?_;refine RunE.lat ((show OpOK _ _ _ _ _ (aggS (pc (d))) from ok_load_agg rfl rfl rfl rfl)) rfl rfl rfl ?_;refine RunE.lat ((show OpOK _ _ _ _ _ (aggS (pc (c))) from ok_load_agg rfl rfl rfl rfl)) rfl rfl rfl ?_;refine RunE.lat (ok_call rfl rfl (subS hd hc (by omega))) rfl rfl rfl ?_;refine RunE.nil ?_
 refine ⟨⟨_, _, _, _, _, _, _, _, (show 10 ≠ 11 by decide), NewB.mk1 rfl rfl rfl rfl rfl rfl rfl (by intro h; cases h) (by intro h; cases h) rfl rfl rfl, NewB.mk1 rfl rfl rfl rfl rfl rfl rfl (by intro h; cases h) (by intro h; cases h) rfl rfl rfl, fun b10 b11 => ?_⟩⟩
 refine zx ?_;refine zo ((show OpOK _ _ _ _ _ (aggS (pc (rep (sub2 (pv b) (pv a))))) from ok_load_own_agg 1 rfl rfl rfl (by kernel_rfl) rfl)) ?_;refine zo ((show OpOK _ _ _ _ _ (aggS (pc (rep (sub2 (pv d) (pv c))))) from ok_load_own_agg 0 rfl rfl rfl (by kernel_rfl) rfl)) ?_;refine zo (ok_call rfl rfl (show PSpec _ _ _ _ (aggS (canQ (den (pv a) (pv b) (pv c) (pv d)))) from by have h := crossS (G := G) c1 c2 (by omega); rw [pv_rep, pv_rep] at h; exact h)) ?_;refine zzv fun b12 => ?_;refine zw ?_;refine zzn ?_;refine T_drawAS 10 (by kernel_rfl) rfl rfl ?_;refine RunE.lat ((show OpOK _ _ _ _ _ (aggS (pc (c))) from ok_load_agg rfl rfl rfl rfl)) rfl rfl rfl ?_;refine RunE.lat ((show OpOK _ _ _ _ _ (aggS (pc (a))) from ok_load_agg rfl rfl rfl rfl)) rfl rfl rfl ?_;refine RunE.lat (ok_call rfl rfl (subS hc ha (by omega))) rfl rfl rfl ?_;refine RunE.lat ((show OpOK _ _ _ _ _ (aggS (pc (rep (sub2 (pv d) (pv c))))) from ok_load_own_agg 1 rfl rfl rfl (by kernel_rfl) rfl)) rfl rfl rfl ?_;refine RunE.lat (ok_call rfl rfl (show PSpec _ _ _ _ (aggS (canQ (x2 (sub2 (pv c) (pv a)) (sub2 (pv d) (pv c))))) from by have h := crossS (G := G) c3 c2 (by omega); rw [pv_rep, pv_rep] at h; exact h)) rfl rfl rfl ?_;refine RunE.lat ((show OpOK _ _ _ _ _ (aggS (canQ (den (pv a) (pv b) (pv c) (pv d)))) from ok_load_own_agg 0 rfl rfl rfl (by kernel_rfl) rfl)) rfl rfl rfl ?_;refine RunE.lat (ok_call rfl rfl (show PSpec _ _ _ _ (tupS [aggS (canQ (lnR (pv a) (pv b) (pv c) (pv d))), intS .i64 (if den (pv a) (pv b) (pv c) (pv d) = 0 then 30 else 0)]) from rqquo_spec (hx := isQ_can (h := c5)) (hy := isQ_can (h := c4)) (by omega))) rfl rfl rfl ?_;refine RunE.lat (ok_move rfl rfl) rfl rfl rfl ?_;(iterate 2 refine RunE.lat (ok_extract rfl rfl rfl) rfl rfl rfl ?_);refine RunE.nil ?_;refine EffAA.mk1 rfl rfl rfl rfl rfl rfl rfl rfl (by intro h; cases h) rfl rfl rfl fun b13 => ?_;refine zz ?_;refine zzn ?_;refine T_seq ?_;refine zr ?_;(iterate 2 refine zz ?_);refine zzn ?_;refine zzc (fun h35 => ?_) fun h35 => ?_
 ·have k35 := bne_iff_ne.1 h35
  have hd0 : den (pv a) (pv b) (pv c) (pv d) = 0 := Classical.byContradiction fun h => k35 (if_neg h)
  refine zr ?_;refine zo (ok_call rfl rfl (rpOf_spec (p := 0) (q := 0) (by decide) (by decide) (by decide) (by decide))) ?_;refine zw ?_;refine zz ?_;refine zzn ?_;refine T_ret ?_
  exact ⟨_, [], .many (.cons (.agg 4 inferInstance rfl rfl rfl rfl) (.cons (.tmp rfl) (.nil))), List.nil_sublist _, by rw [if_pos hd0, decide_eq_true hd0]; rfl, rfl⟩
 ·have k35 := bne_eq_false_iff_eq.1 h35
  have hd0 : ¬ den (pv a) (pv b) (pv c) (pv d) = 0 := fun h => by rw [if_pos h] at k35; exact absurd k35 (by decide)
  refine T_skip ?_;refine zr ?_;refine zo ((show OpOK _ _ _ _ _ (aggS (pc (a))) from ok_load_agg rfl rfl rfl rfl)) ?_;refine zo ((show OpOK _ _ _ _ _ (aggS (pc (b))) from ok_load_agg rfl rfl rfl rfl)) ?_;refine zo ((show OpOK _ _ _ _ _ (aggS (canQ (lnR (pv a) (pv b) (pv c) (pv d)))) from ok_load_own_agg 0 rfl rfl rfl (by kernel_rfl) rfl)) ?_;refine zo (ok_call rfl rfl (show PSpec _ _ _ _ (aggS (pcan (lnP (pv a) (pv b) (pv c) (pv d)))) from atS ha hb c6 (by omega))) ?_;refine zw ?_;refine zz ?_;refine zzn ?_;refine T_ret ?_
  exact ⟨_, [], .many (.cons (.agg 4 inferInstance rfl rfl rfl rfl) (.cons (.tmp rfl) (.nil))), List.nil_sublist _, by rw [if_neg hd0, decide_eq_false hd0]; rfl, rfl⟩
theorem rsegs_spec {a b c d : RawP} {wa wb wc wd w : Nat} (ha : Ps a wa) (hb : Ps b wb) (hc : Ps c wc) (hd : Ps d wd) (hw : wa ≤ w ∧ wb ≤ w ∧ wc ≤ w ∧ wd ≤ w) (hs : 64 * (5 * w + 5) + 5000 ≤ 131072) (hs1 : 128 * (5 * wa + 3 * wb + 6 * wc + 4 * wd + 20) + 6000 ≤ 131072) (hs2 : 64 * (14 * wa + 7 * wb + 12 * wc + 8 * wd + 60) + 5000 ≤ 131072) (hs3 : 64 * (12 * wa + 6 * wb + 14 * wc + 9 * wd + 60) + 5000 ≤ 131072) : PSpec Tryz.prog G 166 [aggS (pc a), aggS (pc b), aggS (pc c), aggS (pc d)] (aggS (mtC (segR (pv a) (pv b) (pv c) (pv d)))) := by
 refine zs Tryz.func166 ?_;refine zr ?_;(iterate 4 refine zz ?_);refine zzv fun b8 => ?_;refine zx ?_;refine zo ((show OpOK _ _ _ _ _ (aggS (pc (a))) from ok_load_agg rfl rfl rfl rfl)) ?_;refine zo ((show OpOK _ _ _ _ _ (aggS (pc (b))) from ok_load_agg rfl rfl rfl rfl)) ?_;refine zo ((show OpOK _ _ _ _ _ (aggS (pc (c))) from ok_load_agg rfl rfl rfl rfl)) ?_;refine zo ((show OpOK _ _ _ _ _ (aggS (pc (d))) from ok_load_agg rfl rfl rfl rfl)) ?_;refine zf (rends_spec (ps_le ha hw.1) (ps_le hb hw.2.1) (ps_le hc hw.2.2.1) (ps_le hd hw.2.2.2) hs) ?_;refine zz ?_;refine zzn ?_;refine T_seq ?_;refine zr ?_;(iterate 3 refine zz ?_);refine zzn ?_;refine zzc (fun h19 => ?_) fun h19 => ?_
 ·have k19 := of_decide_eq_true h19
  have n2 : 2 ≤ (endsF (pv a) (pv b) (pv c) (pv d)).length := by omega
  have n4 : (endsF (pv a) (pv b) (pv c) (pv d)).length ≤ 4 := ends_len (pv a) (pv b) (pv c) (pv d) 4
  have g0 : (endsF (pv a) (pv b) (pv c) (pv d))[0]? = some ((endsF (pv a) (pv b) (pv c) (pv d)).getD 0 (0, 0)) := by rw [List.getD_eq_getElem?_getD, List.getElem?_eq_getElem (by omega)]; rfl
  have g1 : (endsF (pv a) (pv b) (pv c) (pv d))[(endsF (pv a) (pv b) (pv c) (pv d)).length - 1]? = some ((endsF (pv a) (pv b) (pv c) (pv d)).getD ((endsF (pv a) (pv b) (pv c) (pv d)).length - 1) (0, 0)) := by rw [List.getD_eq_getElem?_getD, List.getElem?_eq_getElem (by omega)]; rfl
  refine T_drawS 10 (by kernel_rfl) ?_;refine zz ?_;refine zo (ok_indexAddr rfl rfl rfl (by omega) (y := ((endsF (pv a) (pv b) (pv c) (pv d)).getD 0 (0, 0))) (g0)) ?_;refine zo ((show OpOK _ _ _ _ _ (aggS (pcan ((endsF (pv a) (pv b) (pv c) (pv d)).getD 0 (0, 0)))) from ok_load_agg rfl rfl rfl rfl)) ?_;(iterate 3 refine zz ?_);refine za (((endsF (pv a) (pv b) (pv c) (pv d)).length - 1 : Nat) : Int) ?_;refine zo (ok_indexAddr rfl rfl rfl (by omega) (y := ((endsF (pv a) (pv b) (pv c) (pv d)).getD ((endsF (pv a) (pv b) (pv c) (pv d)).length - 1) (0, 0))) (g1)) ?_;refine zo ((show OpOK _ _ _ _ _ (aggS (pcan ((endsF (pv a) (pv b) (pv c) (pv d)).getD ((endsF (pv a) (pv b) (pv c) (pv d)).length - 1) (0, 0)))) from ok_load_agg rfl rfl rfl rfl)) ?_;refine zo ((show OpOK _ _ _ _ _ (aggS (mtC (2, ((endsF (pv a) (pv b) (pv c) (pv d)).getD 0 (0, 0)), ((endsF (pv a) (pv b) (pv c) (pv d)).getD ((endsF (pv a) (pv b) (pv c) (pv d)).length - 1) (0, 0))))) from ok_build rfl rfl (by kernel_rfl))) ?_;refine zzn ?_;refine zw ?_;refine zzn ?_;refine T_ret ?_
  exact ⟨_, [], .one (.agg 0 inferInstance rfl rfl rfl rfl), List.nil_sublist _, by unfold segR; rw [if_pos n2]; rfl, rfl⟩
 ·have k19 := of_decide_eq_false h19
  have n2 : ¬ 2 ≤ (endsF (pv a) (pv b) (pv c) (pv d)).length := by omega
  refine T_skip ?_;refine T_seq ?_;refine zr ?_;(iterate 3 refine zz ?_);refine zzn ?_;refine zzc (fun h32 => ?_) fun h32 => ?_
  ·have k32 := beq_iff_eq.1 h32
   have n1 : (endsF (pv a) (pv b) (pv c) (pv d)).length = 1 := by omega
   have g0 : (endsF (pv a) (pv b) (pv c) (pv d))[0]? = some ((endsF (pv a) (pv b) (pv c) (pv d)).getD 0 (0, 0)) := by rw [List.getD_eq_getElem?_getD, List.getElem?_eq_getElem (by omega)]; rfl
   refine T_drawS 7 (by kernel_rfl) ?_;refine zz ?_;refine zo (ok_indexAddr rfl rfl rfl (by omega) (y := ((endsF (pv a) (pv b) (pv c) (pv d)).getD 0 (0, 0))) (g0)) ?_;refine zo ((show OpOK _ _ _ _ _ (aggS (pcan ((endsF (pv a) (pv b) (pv c) (pv d)).getD 0 (0, 0)))) from ok_load_agg rfl rfl rfl rfl)) ?_;refine zz ?_;refine zo (ok_indexAddr rfl rfl rfl (by omega) (y := ((endsF (pv a) (pv b) (pv c) (pv d)).getD 0 (0, 0))) (g0)) ?_;refine zo ((show OpOK _ _ _ _ _ (aggS (pcan ((endsF (pv a) (pv b) (pv c) (pv d)).getD 0 (0, 0)))) from ok_load_agg rfl rfl rfl rfl)) ?_;refine zo ((show OpOK _ _ _ _ _ (aggS (mtC (1, ((endsF (pv a) (pv b) (pv c) (pv d)).getD 0 (0, 0)), ((endsF (pv a) (pv b) (pv c) (pv d)).getD 0 (0, 0))))) from ok_build rfl rfl (by kernel_rfl))) ?_;refine zzn ?_;refine zw ?_;refine zzn ?_;refine T_ret ?_
   exact ⟨_, [], .one (.agg 0 inferInstance rfl rfl rfl rfl), List.nil_sublist _, by unfold segR; rw [if_neg n2, if_pos n1]; rfl, rfl⟩
  ·have k32 := beq_eq_false_iff_ne.1 h32
   have n1 : ¬ (endsF (pv a) (pv b) (pv c) (pv d)).length = 1 := by omega
   obtain ⟨P, hP⟩ : ∃ P, P = (if den (pv a) (pv b) (pv c) (pv d) = 0 then (0, 0) else lnP (pv a) (pv b) (pv c) (pv d)) := ⟨_, rfl⟩
   have e2 := seg_rest hP n2 n1
   have hln := rcrossL_spec (G := G) ha hb hc hd hs1
   rw [← hP] at hln
   have c1 := subS_ok hb ha
   have c2 := subS_ok hd hc
   have c3 := subS_ok hc ha
   have c4 := crossS_ok c1 c2
   have c5 := crossS_ok c3 c2
   rw [pv_rep, pv_rep] at c4 c5
   have c4 : Bq (den (pv a) (pv b) (pv c) (pv d)) _ := c4
   have c6 : Bq (lnR (pv a) (pv b) (pv c) (pv d)) _ := bq_div (hp := c5) (hq := c4)
   have oP : Ps (rep P) (6 * wa + 3 * wb + 6 * wc + 4 * wd + 24) := by
    rw [hP]; split
    ·exact ps_le (ps_bq bq_zero bq_zero) (by omega)
    ·exact ps_le (atS_ok ha hb c6) (by omega)
   refine T_skip ?_;refine zr ?_;refine zo ((show OpOK _ _ _ _ _ (aggS (pc (a))) from ok_load_agg rfl rfl rfl rfl)) ?_;refine zo ((show OpOK _ _ _ _ _ (aggS (pc (b))) from ok_load_agg rfl rfl rfl rfl)) ?_;refine zo ((show OpOK _ _ _ _ _ (aggS (pc (c))) from ok_load_agg rfl rfl rfl rfl)) ?_;refine zo ((show OpOK _ _ _ _ _ (aggS (pc (d))) from ok_load_agg rfl rfl rfl rfl)) ?_;refine zf hln ?_;(iterate 3 refine zz ?_);refine zzv fun b10 => ?_;refine zw ?_;refine zz ?_;refine zzn ?_;refine T_seq ?_;refine zr ?_
   refine Run.oneB (ok_move rfl rfl) rfl rfl rfl (fun h7_0 => ?_) (fun h7_0 => ?_)
   ·refine zz ?_;refine zo ((show OpOK _ _ _ _ _ (aggS (pc (a))) from ok_load_agg rfl rfl rfl rfl)) ?_;refine zo ((show OpOK _ _ _ _ _ (aggS (pc (b))) from ok_load_agg rfl rfl rfl rfl)) ?_;refine zo ((show OpOK _ _ _ _ _ (aggS (pc (rep P))) from ok_load_own_agg 0 rfl rfl rfl (by kernel_rfl) rfl)) ?_;refine zo (ok_call rfl rfl (show PSpec _ _ _ _ (boolS (onD (pv a) (pv b) P)) from by have h := ron_spec (G := G) ha hb oP (by omega); rw [pv_rep] at h; exact h)) ?_
    refine Run.oneB (ok_pick rfl rfl rfl) rfl rfl rfl (fun h7_6 => ?_) (fun h7_6 => ?_)
    ·refine zz ?_;refine zo ((show OpOK _ _ _ _ _ (aggS (pc (c))) from ok_load_agg rfl rfl rfl rfl)) ?_;refine zo ((show OpOK _ _ _ _ _ (aggS (pc (d))) from ok_load_agg rfl rfl rfl rfl)) ?_;refine zo ((show OpOK _ _ _ _ _ (aggS (pc (rep P))) from ok_load_own_agg 0 rfl rfl rfl (by kernel_rfl) rfl)) ?_;refine zo (ok_call rfl rfl (show PSpec _ _ _ _ (boolS (onD (pv c) (pv d) P)) from by have h := ron_spec (G := G) hc hd oP (by omega); rw [pv_rep] at h; exact h)) ?_;refine zz ?_;refine zzn ?_;refine zzc (fun h60 => ?_) fun h60 => ?_
     ·refine zr ?_;(iterate 2 refine zo ((show OpOK _ _ _ _ _ (aggS (pcan P)) from ok_load_own_agg 0 rfl rfl rfl (by kernel_rfl) rfl)) ?_);refine zo ((show OpOK _ _ _ _ _ (aggS (mtC (1, P, P))) from ok_build rfl rfl (by kernel_rfl))) ?_;refine zw ?_;refine zzn ?_;refine T_ret ?_
      exact ⟨_, [], .one (.agg 1 inferInstance rfl rfl rfl rfl), List.nil_sublist _, by rw [e2, if_pos (by rw [h7_0, h7_6, h60]; rfl)]; rfl, rfl⟩
     ·refine T_skip ?_;refine zr ?_;(iterate 2 refine zo (ok_call rfl rfl (rpOf_spec (p := 0) (q := 0) (by decide) (by decide) (by decide) (by decide))) ?_);refine zo ((show OpOK _ _ _ _ _ (aggS (mtC noMt)) from ok_build rfl rfl (by kernel_rfl))) ?_;refine zw ?_;refine zzn ?_;refine T_ret ?_
      exact ⟨_, [], .one (.agg 1 inferInstance rfl rfl rfl rfl), List.nil_sublist _, by rw [e2, if_neg (by rw [h7_0, h7_6, h60]; decide)]; rfl, rfl⟩
    ·refine zz ?_;(iterate 4 refine zq ?_);refine zz ?_;refine zzn ?_;refine T_condF rfl rfl ?_;refine T_skip ?_;refine zr ?_;(iterate 2 refine zo (ok_call rfl rfl (rpOf_spec (p := 0) (q := 0) (by decide) (by decide) (by decide) (by decide))) ?_);refine zo ((show OpOK _ _ _ _ _ (aggS (mtC noMt)) from ok_build rfl rfl (by kernel_rfl))) ?_;refine zw ?_;refine zzn ?_;refine T_ret ?_
     exact ⟨_, [], .one (.agg 1 inferInstance rfl rfl rfl rfl), List.nil_sublist _, by rw [e2, if_neg (by rw [h7_0, h7_6]; simp)]; rfl, rfl⟩
   ·refine zz ?_;(iterate 4 refine zq ?_);(iterate 2 refine zz ?_);(iterate 4 refine zq ?_);refine zz ?_;refine zzn ?_;refine T_condF rfl rfl ?_;refine T_skip ?_;refine zr ?_;(iterate 2 refine zo (ok_call rfl rfl (rpOf_spec (p := 0) (q := 0) (by decide) (by decide) (by decide) (by decide))) ?_);refine zo ((show OpOK _ _ _ _ _ (aggS (mtC noMt)) from ok_build rfl rfl (by kernel_rfl))) ?_;refine zw ?_;refine zzn ?_;refine T_ret ?_
    exact ⟨_, [], .one (.agg 1 inferInstance rfl rfl rfl rfl), List.nil_sublist _, by rw [e2, if_neg (by rw [h7_0]; simp)]; rfl, rfl⟩
end Go.Proofs
/- straitref13, straitref14: which polygons are simple, strictly convex, which scenes may be, by the document's answer. -/
namespace Num
open Go Go.Proofs
theorem simB_pr {l : List V2} : simB l = true ↔ 3 ≤ l.length ∧ ∀ i j, i < j → j < l.length → prOk l (i, j) = true := by
 unfold simB
 rw [Bool.and_eq_true, decide_eq_true_eq, List.all_eq_true]
 refine and_congr_right fun _ => ⟨fun h i j h1 h2 => h (i, j) (mem_prs.2 ⟨h1, h2⟩), fun h x hx => ?_⟩
 obtain ⟨i, j⟩ := x
 exact h i j (mem_prs.1 hx).1 (mem_prs.1 hx).2
theorem all1_take {l : List Int} {g : Nat} {n : Int} (h : l[g]? = some n) (hp : n = 1) (hn : ∀ x ∈ l.take g, x = 1) : ∀ x ∈ l.take (g + 1), x = 1 := take_all h hp hn
theorem cvx_miss {l : List V2} {g : Nat} {n : Int} (h : (turnL l)[g]? = some n) (hn : n ≠ 1) : cvxB l = false := by
 unfold cvxB
 have : ((turnL l).all fun n => decide (n = 1)) = false := by
  cases q : (turnL l).all fun n => decide (n = 1) with
  | false => rfl
  | true => exact absurd (of_decide_eq_true (List.all_eq_true.1 q n (List.mem_of_getElem? h))) hn
 rw [this]; rfl
theorem cvx_all {l : List V2} (h : ∀ x ∈ turnL l, x = 1) : cvxB l = simB l := by
 unfold cvxB
 have : ((turnL l).all fun n => decide (n = 1)) = true := List.all_eq_true.2 fun x hx => decide_eq_true (h x hx)
 rw [this]; rfl
theorem turnL_get {l : List V2} {g : Nat} (h3 : 3 ≤ l.length) (hg : g < l.length) : (turnL l)[g]? = some (tri (cr (cor l (g + l.length - 1)) (cor l g) (cor l (g + 1))) 0) := by
 unfold turnL
 rw [if_neg (by omega), List.getElem?_map, List.getElem?_range hg]; rfl
theorem turnL_len {l : List V2} (h3 : 3 ≤ l.length) : (turnL l).length = l.length := by unfold turnL; rw [if_neg (by omega), List.length_map, List.length_range]
theorem cnt_no {s : Sc} (h : s.1.length < 3 ∨ 6 < s.1.length ∨ 4 < s.2.1.length ∨ 8 < s.2.2.length ∨ 6 < tris s) : cntB s = false := by
 cases q : cntB s with
 | false => rfl
 | true => obtain ⟨a, b, c, d, e, f⟩ := cnt_facts q; omega
theorem cnt_row {s : Sc} {r : List RP} (hr : r ∈ s.2.1) (h : inB r.length 6 = false) : cntB s = false := by
 unfold cntB
 rw [show (s.2.1.any fun r => !inB r.length 6) = true from List.any_eq_true.2 ⟨r, hr, by rw [h]; rfl⟩]
 cases inB s.1.length 6 <;> cases decide (s.2.1.length ≤ 4) <;> rfl
theorem cnt_yes {s : Sc} (c1 : 3 ≤ s.1.length) (c2 : s.1.length ≤ 6) (c3 : s.2.1.length ≤ 4) (c4 : s.2.2.length ≤ 8) (c5 : tris s ≤ 6) (hall : ∀ r ∈ s.2.1, inB r.length 6 = true) : cntB s = true := by
 unfold cntB
 have e : (s.2.1.any fun r => !inB r.length 6) = false := by
  cases q : s.2.1.any fun r => !inB r.length 6 with
  | false => rfl
  | true => obtain ⟨r, hr, h⟩ := List.any_eq_true.1 q; rw [hall r hr] at h; cases h
 rw [e, decide_eq_true c3, decide_eq_true c4, decide_eq_true c5]
 unfold inB
 rw [decide_eq_true c1, decide_eq_true (by omega)]; rfl
theorem code_five {s : Sc} (h0 : cntB s = true) (h1 : cvxB (s.1.map pv) = false) : codeF s = 5 := by
 unfold codeF
 rw [if_neg (by show ¬ cntB s = false; rw [h0]; decide), if_pos (show clB s 1 = false from h1)]
theorem code_six {s : Sc} {r : List RP} (h0 : cntB s = true) (h1 : cvxB (s.1.map pv) = true) (hr : r ∈ s.2.1) (h2 : simB (r.map pv) = false) : codeF s = 6 := by
 unfold codeF
 rw [if_neg (by show ¬ cntB s = false; rw [h0]; decide), if_neg (by show ¬ cvxB (s.1.map pv) = false; rw [h1]; decide), if_pos]
 show (!(s.2.1.any fun r => !simB (r.map pv))) = false
 rw [show (s.2.1.any fun r => !simB (r.map pv)) = true from List.any_eq_true.2 ⟨r, hr, by rw [h2]; rfl⟩]; rfl
theorem code_zero {s : Sc} (h0 : cntB s = true) (h1 : cvxB (s.1.map pv) = true) (h2 : ∀ r ∈ s.2.1, simB (r.map pv) = true) : codeF s = 0 := by
 unfold codeF
 rw [if_neg (by show ¬ cntB s = false; rw [h0]; decide), if_neg (by show ¬ cvxB (s.1.map pv) = false; rw [h1]; decide), if_neg]
 show ¬ (!(s.2.1.any fun r => !simB (r.map pv))) = false
 have e : (s.2.1.any fun r => !simB (r.map pv)) = false := by
  cases q : s.2.1.any fun r => !simB (r.map pv) with
  | false => rfl
  | true => obtain ⟨r, hr, h⟩ := List.any_eq_true.1 q; rw [h2 r hr] at h; cases h
 rw [e]; decide
end Num
namespace Go.Proofs
open Go Go.Sv Num
variable {G : Imm}
theorem beq_dec {x y : Int} : (x == y) = decide (x = y) := by rw [Bool.eq_iff_iff, beq_iff_eq, decide_eq_true_iff]
structure Rw (xs : List RawP) : Prop where
 one : ∀ p ∈ xs, LimR p ∧ tsz p ≤ 80
 two : ∀ i j, i < j → j < xs.length → tsz (ra xs i) + tsz (ra xs j) ≤ 80
theorem rw_small {xs : List RawP} (hx : ∀ p ∈ xs, LimR p ∧ tsz p ≤ 40) : Rw xs := ⟨fun p hp => ⟨(hx p hp).1, by have := (hx p hp).2; omega⟩, fun i j hij hj => by
 have a := (hx _ (getD_mem (show i < xs.length by omega))).2
 have b := (hx _ (getD_mem hj)).2
 exact Nat.le_trans (Nat.add_le_add a b) (by decide)⟩
theorem Rw.ne {xs : List RawP} (h : Rw xs) {i j : Nat} (hi : i < xs.length) (hj : j < xs.length) (hij : i ≠ j) : tsz (ra xs i) + tsz (ra xs j) ≤ 80 := by
 rcases Nat.lt_or_gt_of_ne hij with g | g
 ·exact h.two i j g hj
 ·have := h.two j i g hi; omega
theorem kin_raw {xs : List RawP} {i k : Nat} (hi : i < xs.length) (hk : k < xs.length) : prOk (pvs2 xs) (i, k) = (!decide (pv (ra xs i) = pv (ra xs k)) && decide (kin (pv (ra xs i)) (pv (rb xs i)) (pv (ra xs k)) (pv (rb xs k)) = wantF xs.length i k)) := prOk_raw hi hk
theorem redge_spec {xs : List RawP} {i : Nat} (hn : 2 ≤ xs.length) (hi : i < xs.length) (hx : xs.length ≤ 1000000) : PSpec Tryz.prog G 165 [slS 6 pc xs, intS .i64 (i : Nat)] (tupS [aggS (pc (ra xs i)), aggS (pc (rb xs i)), boolS true]) := by
 have hm : (i + 1) % xs.length < xs.length := Nat.mod_lt _ (by omega)
 refine zs Tryz.func165 ?_;refine zr ?_;refine zzv fun b4 => ?_;refine zzv fun b5 => ?_;refine zz ?_;refine zzn ?_;refine T_seq ?_;refine zr ?_;(iterate 2 refine zz ?_);refine zo ((ok_cmp rfl rfl rfl rfl).sub (bool_eq (c := false) (decide_eq_false (by omega)))) ?_;(iterate 2 refine zz ?_);refine zo ((ok_cmp rfl rfl rfl rfl).sub (bool_eq (c := false) (decide_eq_false (by omega)))) ?_;(iterate 5 refine zz ?_);refine zo ((ok_cmp rfl rfl rfl rfl).sub (bool_eq (c := false) (decide_eq_false (by omega)))) ?_;refine zz ?_;refine zzn ?_;refine T_condF rfl rfl ?_;refine T_skip ?_;refine T_drawMS 14 [12, 13] _ (by kernel_rfl) (.cons _ (.cons _ .slnil)) ?_;(iterate 2 refine RunE.one (ok_move rfl rfl) rfl rfl rfl (by kernel_rfl) ?_);refine RunE.one (ok_indexAddr rfl rfl rfl (by omega) (y := ra xs i) (get_getD hi)) rfl rfl rfl (by kernel_rfl) ?_;refine RunE.one ((show OpOK _ _ _ _ _ (aggS (pc (ra xs i))) from ok_load_agg rfl rfl rfl rfl)) rfl rfl rfl (by kernel_rfl) ?_;(iterate 2 refine RunE.lat (ok_move rfl rfl) rfl rfl rfl ?_);refine RunE.lat (ok_ari (z := ((i + 1 : Nat) : Int)) rfl rfl rfl (congrArg some (by omega)) (wrap_i64 (by omega) (by omega))) rfl rfl rfl ?_;refine RunE.lat (ok_move rfl rfl) rfl rfl rfl ?_;refine RunE.lat (ok_len rfl rfl) rfl rfl rfl ?_;refine RunE.lat ((ok_rem rfl rfl rfl (by omega) (by omega)).sub (int_eq (n := (((i + 1) % xs.length : Nat) : Int)) (by simp))) rfl rfl rfl ?_;refine RunE.lat (ok_indexAddr rfl rfl rfl (by omega) (y := rb xs i) (get_getD hm)) rfl rfl rfl ?_;refine RunE.lat ((show OpOK _ _ _ _ _ (aggS (pc (rb xs i))) from ok_load_agg rfl rfl rfl rfl)) rfl rfl rfl ?_
 refine RunE.nil ⟨_, rfl, ?_⟩
 refine .loc1n 1 (l_store rfl rfl rfl rfl (by first | decide | (simp; done) | (simp; omega))) rfl rfl rfl ?_
 rintro s1 H1 ⟨rfl, rfl⟩
 refine ⟨(.cons _ (.cons _ .slnil)), ?_⟩
 refine RunE.nil ⟨_, rfl, ?_⟩
 refine .loc1n 0 (l_store rfl rfl rfl rfl (by first | decide | (simp; done) | (simp; omega))) rfl rfl rfl ?_
 rintro s1 H1 ⟨rfl, rfl⟩
 refine ⟨(.cons _ (.cons _ .slnil)), ?_⟩
 refine RunE.nil ?_;refine zz ?_;refine zzn ?_;refine T_ret ?_
 exact ⟨_, [], .many (.cons (.agg 1 inferInstance rfl rfl rfl rfl) (.cons (.agg 0 inferInstance rfl rfl rfl rfl) (.cons (.tmp rfl) (.nil)))), List.nil_sublist _, rfl, rfl⟩
theorem rapart_spec {xs : List RawP} (hr : Rw xs) {i k : Nat} (hn : 3 ≤ xs.length) (hik : i < k) (hk : k < xs.length) (hx : xs.length ≤ 1000000) : PSpec Tryz.prog G 121 [slS 6 pc xs, intS .i64 (i : Nat), intS .i64 (k : Nat)] (boolS (decide (kin (pv (ra xs i)) (pv (rb xs i)) (pv (ra xs k)) (pv (rb xs k)) = wantF xs.length i k))) := by
 have hi : i < xs.length := by omega
 have hm : (i + 1) % xs.length < xs.length := Nat.mod_lt _ (by omega)
 have hm2 : (k + 1) % xs.length < xs.length := Nat.mod_lt _ (by omega)
 have e1 : (i + 1) % xs.length = i + 1 := Nat.mod_eq_of_lt (by omega)
 have e2 : (k + 1) % xs.length = if k + 1 = xs.length then 0 else k + 1 := by split; (rename_i h; rw [h, Nat.mod_self]); exact Nat.mod_eq_of_lt (by omega)
 have n1 : i ≠ (i + 1) % xs.length := by omega
 have n2 : k ≠ (k + 1) % xs.length := by rw [e2]; split <;> omega
 have n3 : (i + 1) % xs.length ≠ (k + 1) % xs.length := by rw [e1, e2]; split <;> omega
 have AB : tsz (ra xs i) + tsz (rb xs i) ≤ 80 := hr.ne hi hm n1
 have CD : tsz (ra xs k) + tsz (rb xs k) ≤ 80 := hr.ne hk hm2 n2
 have AC : tsz (ra xs i) + tsz (ra xs k) ≤ 80 := hr.ne hi hk (by omega)
 have BD : tsz (rb xs i) + tsz (rb xs k) ≤ 80 := hr.ne hm hm2 n3
 have oa : Ps (ra xs i) (tsz (ra xs i) + 2) := ps_raw (hr.one _ (getD_mem hi)).1
 have ob : Ps (rb xs i) (tsz (rb xs i) + 2) := ps_raw (hr.one _ (getD_mem hm)).1
 have oc : Ps (ra xs k) (tsz (ra xs k) + 2) := ps_raw (hr.one _ (getD_mem hk)).1
 have od : Ps (rb xs k) (tsz (rb xs k) + 2) := ps_raw (hr.one _ (getD_mem hm2)).1
 have hsk := seg_kin (pv (ra xs i)) (pv (rb xs i)) (pv (ra xs k)) (pv (rb xs k))
 refine zs Tryz.func121 ?_;refine zr ?_;refine zz ?_;refine zx ?_;(iterate 2 refine zz ?_);refine zo (ok_call rfl rfl (redge_spec (by omega) hi hx)) ?_;(iterate 4 refine zz ?_);refine zzv fun b7 => ?_;refine zzv fun b8 => ?_;refine zw ?_;refine Run.ghost _ rfl (ghost_ptr 1 7 rfl rfl) ?_;refine zw ?_;refine Run.ghost _ rfl (ghost_ptr 0 8 rfl rfl) ?_;refine zz ?_;refine zx ?_;(iterate 2 refine zz ?_);refine zo (ok_call rfl rfl (redge_spec (by omega) hk hx)) ?_;(iterate 4 refine zz ?_);refine zzv fun b10 => ?_;refine zzv fun b11 => ?_;refine zw ?_;refine Run.ghost _ rfl (ghost_ptr 1 10 rfl rfl) ?_;refine zw ?_;refine Run.ghost _ rfl (ghost_ptr 0 11 rfl rfl) ?_;refine zz ?_;refine zx ?_;refine zo ((show OpOK _ _ _ _ _ (aggS (pc (ra xs i))) from ok_load_agg rfl rfl rfl rfl)) ?_;refine zo ((show OpOK _ _ _ _ _ (aggS (pc (rb xs i))) from ok_load_agg rfl rfl rfl rfl)) ?_;refine zo ((show OpOK _ _ _ _ _ (aggS (pc (ra xs k))) from ok_load_agg rfl rfl rfl rfl)) ?_;refine zo ((show OpOK _ _ _ _ _ (aggS (pc (rb xs k))) from ok_load_agg rfl rfl rfl rfl)) ?_;refine zo (ok_call rfl rfl (rsegs_spec (w := 82) oa ob oc od ⟨by omega, by omega, by omega, by omega⟩ (by omega) (by omega) (by omega) (by omega))) ?_;refine zzv fun b13 => ?_;refine zw ?_;refine zzn ?_;refine T_seq ?_;refine zr ?_;(iterate 2 refine zz ?_);refine za ((i + 1 : Nat) : Int) ?_
 refine Run.oneB (ok_cmp rfl rfl rfl rfl) rfl rfl rfl (fun h4_3 => ?_) (fun h4_3 => ?_)
 ·have k4_3 := beq_iff_eq.1 h4_3
  refine zz ?_;(iterate 9 refine zq ?_);refine zz ?_;refine zzn ?_;refine T_condT rfl rfl ?_;refine zr ?_;(iterate 2 refine zz ?_);refine zo ((ok_cmp rfl rfl rfl rfl).sub (bool_eq (c := decide (kin (pv (ra xs i)) (pv (rb xs i)) (pv (ra xs k)) (pv (rb xs k)) = 1)) (by rw [hsk]; exact beq_dec))) ?_;refine zz ?_;refine zzn ?_;refine T_ret ?_
  exact ⟨_, [], .one (.tmp rfl), List.nil_sublist _, by rw [want_one (.inl (by omega))], rfl⟩
 ·have k4_3 := beq_eq_false_iff_ne.1 h4_3
  iterate 2 refine zz ?_
  refine Run.oneB (ok_cmp rfl rfl rfl rfl) (gB rfl rfl rfl rfl) rfl rfl (fun h4_6 => ?_) (fun h4_6 => ?_)
  ·have k4_6 := beq_iff_eq.1 h4_6
   (iterate 4 refine zz ?_);refine za ((xs.length - 1 : Nat) : Int) ?_;(iterate 3 refine zz ?_);refine zzn ?_;refine zzc (fun h47 => ?_) fun h47 => ?_
   ·have k47 := beq_iff_eq.1 h47
    refine zr ?_;(iterate 2 refine zz ?_);refine zo ((ok_cmp rfl rfl rfl rfl).sub (bool_eq (c := decide (kin (pv (ra xs i)) (pv (rb xs i)) (pv (ra xs k)) (pv (rb xs k)) = 1)) (by rw [hsk]; exact beq_dec))) ?_;refine zz ?_;refine zzn ?_;refine T_ret ?_
    exact ⟨_, [], .one (.tmp rfl), List.nil_sublist _, by rw [want_one (.inr ⟨by omega, by omega⟩)], rfl⟩
   ·have k47 := beq_eq_false_iff_ne.1 h47
    refine T_skip ?_;refine zr ?_;(iterate 2 refine zz ?_);refine zo ((ok_cmp rfl rfl rfl rfl).sub (bool_eq (c := decide (kin (pv (ra xs i)) (pv (rb xs i)) (pv (ra xs k)) (pv (rb xs k)) = 0)) (by rw [hsk]; exact beq_dec))) ?_;refine zz ?_;refine zzn ?_;refine T_ret ?_
    exact ⟨_, [], .one (.tmp rfl), List.nil_sublist _, by rw [want_none (by omega)], rfl⟩
  ·have k4_6 := beq_eq_false_iff_ne.1 h4_6
   refine zz ?_;(iterate 5 refine zq ?_);(iterate 2 refine zz ?_);refine zzn ?_;refine T_condF rfl rfl ?_;refine T_skip ?_;refine zr ?_;(iterate 2 refine zz ?_);refine zo ((ok_cmp rfl rfl rfl rfl).sub (bool_eq (c := decide (kin (pv (ra xs i)) (pv (rb xs i)) (pv (ra xs k)) (pv (rb xs k)) = 0)) (by rw [hsk]; exact beq_dec))) ?_;refine zz ?_;refine zzn ?_;refine T_ret ?_
   exact ⟨_, [], .one (.tmp rfl), List.nil_sublist _, by rw [want_none (by omega)], rfl⟩
theorem rsimple_spec {xs : List RawP} (hr : Rw xs) (hx : xs.length ≤ 1000000) : PSpec Tryz.prog G 77 [slS 6 pc xs] (boolS (simB (pvs2 xs))) := by
 have hLl : (pvs2 xs).length = xs.length := List.length_map _
 refine zs Tryz.func77 ?_;refine zr ?_;refine zz ?_;refine zzn ?_;refine T_seq ?_;refine zr ?_;(iterate 3 refine zz ?_);refine zzn ?_;refine zzc (fun h7 => ?_) fun h7 => ?_
 ·have k7 := of_decide_eq_true h7
  refine zr ?_;refine zz ?_;refine zzn ?_;refine T_ret ?_
  exact ⟨_, [], .one (.tmp rfl), List.nil_sublist _, by cases q : simB (pvs2 xs) with
   | false => rfl
   | true => have := (simB_pr.1 q).1; omega, rfl⟩
 ·have k7 := of_decide_eq_false h7
  refine T_skip ?_;refine T_seq ?_;refine zr ?_;refine zz ?_;refine zzn ?_;refine T_block ?_
  refine T_loop (γ := Nat) (fun k => ⟨_, [(3, intS .i64 (k : Nat)), (0, slS 6 pc xs)], [], [], (0, false)⟩) (fun k => k ≤ xs.length ∧ ∀ a b, a < b → b < k → prOk (pvs2 xs) (a, b) = true) (fun k => xs.length - k) 0 ⟨Nat.zero_le _, fun a b _ h => by omega⟩ (ent_g zk) ?_
  rintro k ⟨hk9, hall⟩
  refine T_seq ?_;refine zr ?_;(iterate 4 refine zz ?_);refine zzn ?_;refine zzc (fun h11 => ?_) fun h11 => ?_
  ·have k11 := of_decide_eq_true h11
   have hk : k < xs.length := by omega
   refine T_skip ?_;refine T_seq ?_;refine T_block ?_;refine zr ?_;refine zz ?_;refine zzn ?_;refine T_block ?_
   refine T_loop (γ := Nat) (fun i => ⟨_, [(4, intS .i64 (i : Nat)), (3, intS .i64 (k : Nat)), (0, slS 6 pc xs)], [], [], (0, false)⟩) (fun i => i ≤ k ∧ ∀ a, a < i → prOk (pvs2 xs) (a, k) = true) (fun i => k - i) 0 ⟨Nat.zero_le _, fun a h => by omega⟩ (ent_g zk) ?_
   rintro i ⟨hi9, hrow⟩
   refine T_seq ?_;refine zr ?_;(iterate 3 refine zz ?_);refine zzn ?_;refine zzc (fun h16 => ?_) fun h16 => ?_
   ·have k16 := of_decide_eq_true h16
    have hik : i < k := by omega
    have hi : i < xs.length := by omega
    have hpr := kin_raw hi hk
    have o1 : Ps (ra xs k) (tsz (ra xs k) + 2) := ps_raw (hr.one _ (getD_mem hk)).1
    have o2 : Ps (ra xs i) (tsz (ra xs i) + 2) := ps_raw (hr.one _ (getD_mem hi)).1
    have t1 : tsz (ra xs k) ≤ 80 := (hr.one _ (getD_mem hk)).2
    have t2 : tsz (ra xs i) ≤ 80 := (hr.one _ (getD_mem hi)).2
    have bad : prOk (pvs2 xs) (i, k) = false → simB (pvs2 xs) = false := fun e => by
     cases q : simB (pvs2 xs) with
     | false => rfl
     | true => rw [(simB_pr.1 q).2 i k hik (by omega)] at e; cases e
    refine T_skip ?_;refine T_seq ?_;refine T_block ?_;refine T_drawS 16 (by kernel_rfl) ?_;(iterate 2 refine zz ?_);refine zo (ok_indexAddr rfl rfl rfl (by omega) (y := ra xs k) (get_getD hk)) ?_;refine zo ((show OpOK _ _ _ _ _ (aggS (pc (ra xs k))) from ok_load_agg rfl rfl rfl rfl)) ?_;(iterate 2 refine zz ?_);refine zo (ok_indexAddr rfl rfl rfl (by omega) (y := ra xs i) (get_getD hi)) ?_;refine zo ((show OpOK _ _ _ _ _ (aggS (pc (ra xs i))) from ok_load_agg rfl rfl rfl rfl)) ?_
    refine Run.oneB ((ok_call rfl rfl (sameS o1 o2 (by omega))).sub (bool_eq (c := decide (pv (ra xs i) = pv (ra xs k))) (decide_eq_decide.2 eq_comm))) rfl rfl rfl (fun h9_8 => ?_) (fun h9_8 => ?_)
    ·refine zz ?_;(iterate 5 refine zq ?_);refine zz ?_;(iterate 2 refine zzn ?_);refine T_condT rfl rfl ?_;refine zr ?_;refine zz ?_;refine zzn ?_;refine T_ret ?_
     exact ⟨_, [], .one (.tmp rfl), List.nil_sublist _, by rw [bad (by rw [hpr, h9_8]; rfl)], rfl⟩
    ·refine zz ?_;(iterate 3 refine zz ?_);refine zo (ok_call rfl rfl (rapart_spec hr (by omega) hik hk hx)) ?_;(iterate 2 refine zz ?_);(iterate 2 refine zzn ?_);refine zzc (fun h34 => ?_) fun h34 => ?_
     ·refine zr ?_;refine zz ?_;refine zzn ?_;refine T_ret ?_
      exact ⟨_, [], .one (.tmp rfl), List.nil_sublist _, by rw [bad (by rw [hpr]; rw [Bool.not_eq_true'] at h34; rw [h34, Bool.and_false])], rfl⟩
     ·refine T_skip ?_;refine T_region ?_;refine zz ?_;refine za ((i + 1 : Nat) : Int) ?_;refine zz ?_;refine zzn ?_
      exact ⟨i + 1, ⟨by omega, fun a ha => by
       by_cases e : a = i
       ·rw [e, hpr, h9_8]; rw [Bool.not_eq_false'] at h34; rw [h34]; rfl
       ·exact hrow a (by omega)⟩, by omega, ent_g zk⟩
   ·have k16 := of_decide_eq_false h16
    refine T_exit ?_;refine T_region ?_;refine zz ?_;refine za ((k + 1 : Nat) : Int) ?_;refine zz ?_;refine zzn ?_
    exact ⟨k + 1, ⟨by omega, fun a b h1 h2 => by
     by_cases e : b = k
     ·rw [e]; exact hrow a (by omega)
     ·exact hall a b h1 (by omega)⟩, by omega, ent_g zk⟩
  ·have k11 := of_decide_eq_false h11
   refine T_exit ?_;refine zr ?_;refine zz ?_;refine zzn ?_;refine T_ret ?_
   exact ⟨_, [], .one (.tmp rfl), List.nil_sublist _, by rw [simB_pr.2 ⟨by omega, fun a b h1 h2 => hall a b h1 (by omega)⟩], rfl⟩
theorem rturns_spec {xs : List RawP} (hr : Rw xs) (hx : xs.length ≤ 1000000) : PSpec Tryz.prog G 119 [slS 6 pc xs] (slS 1 i64C (turnL (pvs2 xs))) := by
 have hLl : (pvs2 xs).length = xs.length := List.length_map _
 refine zs Tryz.func119 ?_;refine zr ?_;refine zz ?_;refine zzn ?_;refine T_seq ?_;refine zr ?_;(iterate 3 refine zz ?_);refine zzn ?_;refine zzc (fun h7 => ?_) fun h7 => ?_
 ·have k7 := of_decide_eq_true h7
  refine zr ?_
  refine zo ((ok_assign rfl rfl).sub (show ∀ I v, (eqS (.slice none 0 0)).den I v → (slS 1 i64C (turnL (pvs2 xs))).den I v from fun I v h => by have e : (turnL (pvs2 xs)) = [] := if_pos (by omega); rw [e]; cases h; exact nil_sl)) ?_
  refine zzn ?_;refine T_ret ?_
  exact ⟨_, [], .one (.tmp rfl), List.nil_sublist _, rfl, rfl⟩
 ·have k7 := of_decide_eq_false h7
  refine T_skip ?_;refine zr ?_;refine zz ?_;refine zzn ?_;refine T_seq ?_;refine zr ?_;refine zz ?_;refine zzn ?_;refine T_block ?_;refine T_ghost (ghost_row 3 1) ?_;refine T_loop2 (fun (g : Nat) (q : Option (Nat × Nat)) => ⟨_, [(4, intS .i64 (g : Nat)), (3, eqS (rowV q g)), (0, slS 6 pc xs)], [rowE q 3 1 g (((turnL (pvs2 xs)).take g).flatMap i64C)], [], (0, false)⟩) (fun g q => g ≤ xs.length ∧ rowOk q g) (fun g _ => xs.length - g) 0 none ⟨Nat.zero_le _, rfl⟩ (ent_h zk rfl) ?_
  rintro g q ⟨hg9, hq⟩
  refine T_seq ?_;refine zr ?_;(iterate 4 refine zz ?_);refine zzn ?_;refine zzc (fun h11 => ?_) fun h11 => ?_
  ·have k11 := of_decide_eq_true h11
   have hg : g < xs.length := by omega
   have m1 : (g + xs.length - 1) % xs.length < xs.length := Nat.mod_lt _ (by omega)
   have m2 : (g + 1) % xs.length < xs.length := Nat.mod_lt _ (by omega)
   have hv := turnL_get (l := pvs2 xs) (g := g) (by omega) (by omega)
   rw [hLl] at hv
   rw [← cor_per (pvs2 xs) (g + xs.length - 1), hLl, cor_pv m1, cor_pv hg, cor_pv1 hg] at hv
   obtain ⟨n, hn⟩ : ∃ n, n = tri (cr (pv (ra xs ((g + xs.length - 1) % xs.length))) (pv (ra xs g)) (pv (rb xs g))) 0 := ⟨_, rfl⟩
   rw [← hn] at hv
   have hsu : (turnL (pvs2 xs)).take (g + 1) = (turnL (pvs2 xs)).take g ++ [n] := by rw [List.take_add_one, hv]; rfl
   have htl : ((turnL (pvs2 xs)).take g).length = g := by rw [List.length_take, turnL_len (by omega), hLl]; omega
   have o1 : LimR (ra xs ((g + xs.length - 1) % xs.length)) ∧ tsz (ra xs ((g + xs.length - 1) % xs.length)) ≤ 80 := hr.one _ (getD_mem m1)
   have o2 : LimR (ra xs g) ∧ tsz (ra xs g) ≤ 80 := hr.one _ (getD_mem hg)
   have o3 : LimR (rb xs g) ∧ tsz (rb xs g) ≤ 80 := hr.one _ (getD_mem m2)
   refine T_skip ?_;refine T_seq ?_;refine T_block ?_;refine T_drawM 27 [26] _ (by kernel_rfl) (.cons _ .slnil) ?_;(iterate 4 refine RunE.one (ok_move rfl rfl) rfl rfl rfl (by kernel_rfl) ?_);refine RunE.one (ok_len rfl rfl) rfl rfl rfl (by kernel_rfl) ?_;refine RunE.one (ok_ari (z := ((g + xs.length : Nat) : Int)) rfl rfl rfl (congrArg some (by omega)) (wrap_i64 (by omega) (by omega))) rfl rfl rfl (by kernel_rfl) ?_;refine RunE.one (ok_ari (z := ((g + xs.length - 1 : Nat) : Int)) rfl rfl rfl (congrArg some (by omega)) (wrap_i64 (by omega) (by omega))) rfl rfl rfl (by kernel_rfl) ?_;refine RunE.one (ok_move rfl rfl) rfl rfl rfl (by kernel_rfl) ?_;refine RunE.one (ok_len rfl rfl) rfl rfl rfl (by kernel_rfl) ?_;refine RunE.one ((ok_rem rfl rfl rfl (by omega) (by omega)).sub (int_eq (n := (((g + xs.length - 1) % xs.length : Nat) : Int)) (by rw [Int.natCast_emod]))) rfl rfl rfl (by kernel_rfl) ?_;refine RunE.one (ok_indexAddr rfl rfl rfl (by omega) (y := ra xs ((g + xs.length - 1) % xs.length)) (get_getD m1)) rfl rfl rfl (by kernel_rfl) ?_;refine RunE.one ((show OpOK _ _ _ _ _ (aggS (pc (ra xs ((g + xs.length - 1) % xs.length)))) from ok_load_agg rfl rfl rfl rfl)) rfl rfl rfl (by kernel_rfl) ?_;(iterate 2 refine RunE.one (ok_move rfl rfl) rfl rfl rfl (by kernel_rfl) ?_);refine RunE.one (ok_indexAddr rfl rfl rfl (by omega) (y := ra xs g) (get_getD hg)) rfl rfl rfl (by kernel_rfl) ?_;refine RunE.one ((show OpOK _ _ _ _ _ (aggS (pc (ra xs g))) from ok_load_agg rfl rfl rfl rfl)) rfl rfl rfl (by kernel_rfl) ?_;(iterate 2 refine RunE.one (ok_move rfl rfl) rfl rfl rfl (by kernel_rfl) ?_);refine RunE.one (ok_ari (z := ((g + 1 : Nat) : Int)) rfl rfl rfl (congrArg some (by omega)) (wrap_i64 (by omega) (by omega))) rfl rfl rfl (by kernel_rfl) ?_;refine RunE.one (ok_move rfl rfl) rfl rfl rfl (by kernel_rfl) ?_;refine RunE.one (ok_len rfl rfl) rfl rfl rfl (by kernel_rfl) ?_;refine RunE.one ((ok_rem rfl rfl rfl (by omega) (by omega)).sub (int_eq (n := (((g + 1) % xs.length : Nat) : Int)) (by rw [Int.natCast_emod]))) rfl rfl rfl (by kernel_rfl) ?_;refine RunE.one (ok_indexAddr rfl rfl rfl (by omega) (y := rb xs g) (get_getD m2)) rfl rfl rfl (by kernel_rfl) ?_;refine RunE.one ((show OpOK _ _ _ _ _ (aggS (pc (rb xs g))) from ok_load_agg rfl rfl rfl rfl)) rfl rfl rfl (by kernel_rfl) ?_;refine RunE.one (ok_call rfl rfl (show PSpec _ _ _ _ (intS .i64 n) from by rw [hn]; exact rSide_spec o1.1 o2.1 o3.1 (by have := o1.2; have := o2.2; have := o3.2; omega))) rfl rfl rfl (by kernel_rfl) ?_;refine RunE.one (ok_buildSlice rfl rfl (by decide) rfl (by simp) (by kernel_rfl) (by kernel_rfl)) rfl rfl rfl (by kernel_rfl) ?_
   refine RunE.nil ⟨_, rfl, ?_⟩
   refine EffM.append 0 rfl rfl rfl rfl rfl rfl rfl hq (by rw [flat_i64, htl]; simp) (fun z hz => by rw [List.mem_singleton.1 hz]; rfl) (by unfold big; simp; omega) (by unfold big; simp; omega) fun q40 hq40 => ⟨(.cons _ .slnil), ?_⟩
   refine RunE.nil ?_;refine zz ?_;refine zzn ?_;refine T_region ?_;refine zz ?_;refine za ((g + 1 : Nat) : Int) ?_;refine zz ?_;refine zzn ?_
   exact ⟨g + 1, q40, ⟨by omega, hq40⟩, by omega, ent_h (subG_cons rfl (subG_cons rfl (subG_cons rfl (trivial)))) (by rw [hsu, List.flatMap_append]; rfl)⟩
  ·have k11 := of_decide_eq_false h11
   obtain rfl : g = xs.length := by omega
   have htk : (turnL (pvs2 xs)).take xs.length = (turnL (pvs2 xs)) := List.take_of_length_le (by rw [turnL_len (by omega), hLl]; exact Nat.le_refl _)
   rw [htk]
   refine T_exit ?_;refine T_ghost (ghost_sl 0 3 rfl rfl hq (l := (turnL (pvs2 xs))) (f := i64C) (by rw [turnL_len (by omega), hLl]) rfl (fun _ _ => rfl) (by unfold big; omega)) ?_;refine zr ?_;(iterate 2 refine zz ?_);refine zzn ?_;refine T_ret ?_
   exact ⟨_, [], .one (.tmp rfl), List.nil_sublist _, rfl, rfl⟩
theorem rconvex_spec {xs : List RawP} (hr : Rw xs) (hx : xs.length ≤ 1000000) : PSpec Tryz.prog G 76 [slS 6 pc xs] (boolS (cvxB (pvs2 xs))) := by
 refine zs Tryz.func76 ?_;refine zr ?_;refine zz ?_;refine zx ?_;refine zz ?_;refine zf (rturns_spec hr hx) ?_;refine zz ?_;refine zzn ?_;refine T_seq ?_;refine zr ?_;refine zz ?_;refine zzn ?_;refine T_block ?_;refine T_len 3 rfl fun lt => ?_
 unfold big at lt
 refine T_loop (γ := Nat) (fun g => ⟨_, [(4, intS .i64 (g : Nat)), (3, slS 1 i64C (turnL (pvs2 xs))), (0, slS 6 pc xs)], [], [], (0, false)⟩) (fun g => g ≤ (turnL (pvs2 xs)).length ∧ ∀ x ∈ (turnL (pvs2 xs)).take g, x = 1) (fun g => (turnL (pvs2 xs)).length - g) 0 ⟨Nat.zero_le _, fun x hx => by simp at hx⟩ (ent_g (subG_cons rfl (subG_cons rfl (subG_cons rfl (trivial))))) ?_
 rintro g ⟨hg, hall⟩
 refine T_seq ?_;refine zr ?_;(iterate 4 refine zz ?_);refine zzn ?_;refine zzc (fun h10 => ?_) fun h10 => ?_
 ·have k10 := of_decide_eq_true h10
  obtain ⟨n, hn⟩ : ∃ n, (turnL (pvs2 xs))[g]? = some n := ⟨_, List.getElem?_eq_getElem (by omega)⟩
  refine T_skip ?_;refine T_seq ?_;refine T_block ?_;refine zr ?_;(iterate 2 refine zz ?_);refine zo (ok_indexAddr rfl rfl rfl (by omega) (y := n) (hn)) ?_;(iterate 2 refine zz ?_);refine zzn ?_;refine zzc (fun h17 => ?_) fun h17 => ?_
  ·have k17 := bne_iff_ne.1 h17
   refine zr ?_;refine zz ?_;refine zzn ?_;refine T_ret ?_
   exact ⟨_, [], .one (.tmp rfl), List.nil_sublist _, by rw [cvx_miss hn k17], rfl⟩
  ·have k17 := bne_eq_false_iff_eq.1 h17
   refine T_skip ?_;refine T_region ?_;refine zz ?_;refine za ((g + 1 : Nat) : Int) ?_;refine zz ?_;refine zzn ?_
   exact ⟨g + 1, ⟨by omega, all1_take hn k17 hall⟩, by omega, ent_g zk⟩
 ·have k10 := of_decide_eq_false h10
  have hcs := cvx_all (l := pvs2 xs) (by rw [show g = (turnL (pvs2 xs)).length by omega, List.take_length] at hall; exact hall)
  refine T_exit ?_;refine zr ?_;refine zz ?_;refine zf (rsimple_spec hr hx) ?_;refine zz ?_;refine zzn ?_;refine T_ret ?_
  exact ⟨_, [], .one (.tmp rfl), List.nil_sublist _, by rw [hcs], rfl⟩
theorem rtris_spec {s : Sc} {k : Nat} (h : VOk s k) : PSpec Tryz.prog G 38 [aggS (scC s)] (intS .i64 (tris s : Nat)) := by
 have hol := h.ol
 refine zs Tryz.func38 ?_;refine zr ?_;(iterate 2 refine zz ?_);refine zx ?_;refine zz ?_;refine zzn ?_;refine T_seq ?_;refine zr ?_;refine zz ?_;refine zzn ?_;refine T_block ?_;refine T_loop (γ := Nat) (fun g => ⟨_, [(4, intS .i64 (g : Nat)), (3, intS .i64 (trisN s g : Nat)), (1, ptrS (scC s))], [], [], (0, false)⟩) (fun g => g ≤ s.2.1.length ∧ trisN s g ≤ 1000000 * g) (fun g => s.2.1.length - g) 0 ⟨Nat.zero_le _, Nat.le_refl _⟩ (ent_g zk) ?_
 rintro g ⟨hg, hgt⟩
 refine T_seq ?_;refine zr ?_;(iterate 5 refine zz ?_);refine zzn ?_;refine zzc (fun h9 => ?_) fun h9 => ?_
 ·have k9 := of_decide_eq_true h9
  obtain ⟨r, hr⟩ : ∃ r, s.2.1[g]? = some r := ⟨_, List.getElem?_eq_getElem (by omega)⟩
  have hrl := h.orl _ (List.mem_of_getElem? hr)
  have hsu := trisN_succ hr
  refine T_skip ?_;refine T_seq ?_;refine T_block ?_;refine T_region ?_;(iterate 4 refine zz ?_);refine zo (ok_indexAddr rfl rfl rfl (by omega) (y := r) (hr)) ?_;(iterate 2 refine zz ?_);refine zo (ok_ari (z := (r.length : Int) - 2) rfl rfl rfl (congrArg some (by omega)) (wrap_i64 (by omega) (by omega))) ?_;refine zo ((ok_max rfl rfl rfl).sub (int_eq (n := ((r.length - 2 : Nat) : Int)) (by omega))) ?_;refine za ((trisN s (g + 1) : Nat) : Int) ?_;refine zz ?_;refine zzn ?_;refine T_region ?_;refine zz ?_;refine za ((g + 1 : Nat) : Int) ?_;refine zz ?_;refine zzn ?_
  exact ⟨g + 1, ⟨by omega, by omega⟩, by omega, ent_g zk⟩
 ·have k9 := of_decide_eq_false h9
  refine T_exit ?_;refine zr ?_;(iterate 2 refine zz ?_);refine zzn ?_;refine T_ret ?_
  exact ⟨_, [], .one (.tmp rfl), List.nil_sublist _, by rw [← trisN_all, show s.2.1.length = g by omega], rfl⟩
theorem rcounts_spec {s : Sc} {k : Nat} (h : VOk s k) : PSpec Tryz.prog G 36 [aggS (scC s)] (boolS (cntB s)) := by
 have hol := h.ol
 have hrl := h.rl
 have hql := h.ql
 refine zs Tryz.func36 ?_;refine zr ?_;(iterate 2 refine zz ?_);refine zzn ?_;refine T_seq ?_;refine T_seqQ (K := fun S1 => ∃ c : Bool, (c = true → cntB s = false) ∧ (c = false → 3 ≤ s.1.length ∧ s.1.length ≤ 6 ∧ s.2.1.length ≤ 4 ∧ s.2.2.length ≤ 8 ∧ tris s ≤ 6) ∧ Ent S1 ⟨54, [(30, boolS c), (1, ptrS (scC s))], [], [], (0, false)⟩) ?_ ?_
 ·refine T_region ?_;(iterate 3 refine zz ?_)
  refine Run.oneB (ok_cmp rfl rfl rfl rfl) rfl rfl rfl (fun h1_3 => ?_) (fun h1_3 => ?_)
  ·have k1_3 := of_decide_eq_true h1_3
   refine zz ?_;(iterate 4 refine zq ?_);(iterate 2 refine zz ?_);(iterate 4 refine zq ?_);(iterate 2 refine zz ?_);(iterate 4 refine zq ?_);(iterate 2 refine zz ?_);(iterate 3 refine zq ?_);refine zz ?_;refine zzn ?_
   exact ⟨true, (fun _ => cnt_no (.inl (by omega))), (fun h => by cases h), ent_g (subG_cons rfl (subG_cons rfl (trivial)))⟩
  ·have k1_3 := of_decide_eq_false h1_3
   iterate 5 refine zz ?_
   refine Run.oneB (ok_pick rfl rfl rfl) rfl rfl rfl (fun h1_9 => ?_) (fun h1_9 => ?_)
   ·have k1_9 := of_decide_eq_true h1_9
    refine zz ?_;(iterate 4 refine zq ?_);(iterate 2 refine zz ?_);(iterate 4 refine zq ?_);(iterate 2 refine zz ?_);(iterate 3 refine zq ?_);refine zz ?_;refine zzn ?_
    exact ⟨true, (fun _ => cnt_no (.inr (.inl (by omega)))), (fun h => by cases h), ent_g (subG_cons rfl (subG_cons rfl (trivial)))⟩
   ·have k1_9 := of_decide_eq_false h1_9
    iterate 5 refine zz ?_
    refine Run.oneB (ok_pick rfl rfl rfl) rfl rfl rfl (fun h1_15 => ?_) (fun h1_15 => ?_)
    ·have k1_15 := of_decide_eq_true h1_15
     refine zz ?_;(iterate 4 refine zq ?_);(iterate 2 refine zz ?_);(iterate 3 refine zq ?_);refine zz ?_;refine zzn ?_
     exact ⟨true, (fun _ => cnt_no (.inr (.inr (.inl (by omega))))), (fun h => by cases h), ent_g (subG_cons rfl (subG_cons rfl (trivial)))⟩
    ·have k1_15 := of_decide_eq_false h1_15
     iterate 5 refine zz ?_
     refine Run.oneB (ok_pick rfl rfl rfl) rfl rfl rfl (fun h1_21 => ?_) (fun h1_21 => ?_)
     ·have k1_21 := of_decide_eq_true h1_21
      refine zz ?_;(iterate 3 refine zq ?_);refine zz ?_;refine zzn ?_
      exact ⟨true, (fun _ => cnt_no (.inr (.inr (.inr (.inl (by omega)))))), (fun h => by cases h), ent_g (subG_cons rfl (subG_cons rfl (trivial)))⟩
     ·have k1_21 := of_decide_eq_false h1_21
      refine zz ?_;refine zo ((show OpOK _ _ _ _ _ (aggS (scC s)) from ok_load_agg rfl rfl rfl rfl)) ?_;refine zf (rtris_spec h) ?_;(iterate 2 refine zz ?_);refine zzn ?_
      exact ⟨_, (fun h => cnt_no (.inr (.inr (.inr (.inr (by have := of_decide_eq_true h; omega)))))), (fun h => by have := of_decide_eq_false h; omega), ent_g (subG_cons rfl (subG_cons rfl (trivial)))⟩
 ·rintro S1 ⟨c, hc1, hc2, hS1⟩
  refine T_pre hS1 ?_;refine zzc (fun h30 => ?_) fun h30 => ?_
  ·refine zr ?_;refine zz ?_;refine zzn ?_;refine T_ret ?_
   exact ⟨_, [], .one (.tmp rfl), List.nil_sublist _, by rw [hc1 h30], rfl⟩
  ·obtain ⟨c1, c2, c3, c4, c5⟩ := hc2 h30
   refine T_skip ?_;refine T_seq ?_;refine zr ?_;refine zz ?_;refine zzn ?_;refine T_block ?_
   refine T_loop (γ := Nat) (fun g => ⟨_, [(3, intS .i64 (g : Nat)), (1, ptrS (scC s))], [], [], (0, false)⟩) (fun g => g ≤ s.2.1.length ∧ ∀ r ∈ s.2.1.take g, inB r.length 6 = true) (fun g => s.2.1.length - g) 0 ⟨Nat.zero_le _, fun x hx => by simp at hx⟩ (ent_g (subG_cons rfl (subG_cons rfl (trivial)))) ?_
   rintro g ⟨hg, hall⟩
   refine T_seq ?_;refine zr ?_;(iterate 5 refine zz ?_);refine zzn ?_;refine zzc (fun h35 => ?_) fun h35 => ?_
   ·have k35 := of_decide_eq_true h35
    obtain ⟨r, hr⟩ : ∃ r, s.2.1[g]? = some r := ⟨_, List.getElem?_eq_getElem (by omega)⟩
    have hrl2 := h.orl _ (List.mem_of_getElem? hr)
    refine T_skip ?_;refine T_seq ?_;refine T_block ?_;refine T_seqQ (K := fun S1 => Ent S1 ⟨54, [(53, boolS (!inB r.length 6)), (3, intS .i64 (g : Nat)), (1, ptrS (scC s))], [], [], (0, false)⟩) ?_ ?_
    ·refine T_region ?_;(iterate 3 refine zz ?_);refine zo (ok_indexAddr rfl rfl rfl (by omega) (y := r) (hr)) ?_;(iterate 2 refine zz ?_)
     refine Run.oneB (ok_cmp rfl rfl rfl rfl) rfl rfl rfl (fun h6_6 => ?_) (fun h6_6 => ?_)
     ·have k6_6 := of_decide_eq_true h6_6
      refine zz ?_;(iterate 7 refine zq ?_);refine zz ?_;refine zzn ?_
      exact (by rw [show inB r.length 6 = false by unfold inB; rw [decide_eq_false (by omega)]; rfl]; exact ent_g (subG_cons rfl (subG_cons rfl (subG_cons rfl (trivial)))))
     ·have k6_6 := of_decide_eq_false h6_6
      (iterate 4 refine zz ?_);refine zo (ok_indexAddr rfl rfl rfl (by omega) (y := r) (hr)) ?_;(iterate 4 refine zz ?_);refine zzn ?_
      exact (by rw [show (!inB r.length 6) = decide ((6 : Int) < (r.length : Nat)) by unfold inB; rw [decide_eq_true (by omega), Bool.true_and, ← decide_not]; exact decide_eq_decide.2 (by omega)]; exact ent_g (subG_cons rfl (subG_cons rfl (subG_cons rfl (trivial)))))
    ·intro S1 hS1
     refine T_pre hS1 ?_;refine zzc (fun h53 => ?_) fun h53 => ?_
     ·refine zr ?_;refine zz ?_;refine zzn ?_;refine T_ret ?_
      exact ⟨_, [], .one (.tmp rfl), List.nil_sublist _, by rw [cnt_row (List.mem_of_getElem? hr) (by simpa using h53)], rfl⟩
     ·refine T_skip ?_;refine T_region ?_;refine zz ?_;refine za ((g + 1 : Nat) : Int) ?_;refine zz ?_;refine zzn ?_
      exact ⟨g + 1, ⟨by omega, take_all hr (by simpa using h53) hall⟩, by omega, ent_g (subG_cons rfl (subG_cons rfl (trivial)))⟩
   ·have k35 := of_decide_eq_false h35
    refine T_exit ?_;refine zr ?_;refine zz ?_;refine zzn ?_;refine T_ret ?_
    exact ⟨_, [], .one (.tmp rfl), List.nil_sublist _, by rw [cnt_yes c1 c2 c3 c4 c5 (by rw [show g = s.2.1.length by omega, List.take_length] at hall; exact hall)], rfl⟩
theorem rcode_spec {s : Sc} {k : Nat} (h : VOk s k) (h1 : Rw s.1) (h2 : ∀ r ∈ s.2.1, Rw r) : PSpec Tryz.prog G 34 [aggS (scC s)] (intS .i64 (codeF s)) := by
 have hol := h.ol
 refine zs Tryz.func34 ?_;refine zr ?_;(iterate 2 refine zz ?_);refine zzn ?_;refine T_seq ?_;refine zr ?_;refine zo ((show OpOK _ _ _ _ _ (aggS (scC s)) from ok_load_agg rfl rfl rfl rfl)) ?_;refine zf (rcounts_spec h) ?_;refine zz ?_;refine zzn ?_;refine zzc (fun h6 => ?_) fun h6 => ?_
 ·have g0 : cntB s = false := by simpa using h6
  refine zr ?_;refine zz ?_;refine zzn ?_;refine T_ret ?_
  exact ⟨_, [], .one (.tmp rfl), List.nil_sublist _, by rw [code_four g0], rfl⟩
 ·have g0 : cntB s = true := by simpa using h6
  refine T_skip ?_;refine T_seq ?_;refine zr ?_;(iterate 2 refine zz ?_);refine zf (rconvex_spec h1 h.rl) ?_;refine zz ?_;refine zzn ?_;refine zzc (fun h10 => ?_) fun h10 => ?_
  ·have g1 : cvxB (pvs2 s.1) = false := by simpa using h10
   refine zr ?_;refine zz ?_;refine zzn ?_;refine T_ret ?_
   exact ⟨_, [], .one (.tmp rfl), List.nil_sublist _, by rw [code_five g0 g1], rfl⟩
  ·have g1 : cvxB (pvs2 s.1) = true := by simpa using h10
   refine T_skip ?_;refine T_seq ?_;refine zr ?_;refine zz ?_;refine zzn ?_;refine T_block ?_
   refine T_loop (γ := Nat) (fun g => ⟨_, [(3, intS .i64 (g : Nat)), (1, ptrS (scC s))], [], [], (0, false)⟩) (fun g => g ≤ s.2.1.length ∧ ∀ r ∈ s.2.1.take g, simB (pvs2 r) = true) (fun g => s.2.1.length - g) 0 ⟨Nat.zero_le _, fun x hx => by simp at hx⟩ (ent_g (subG_cons rfl (subG_cons rfl (trivial)))) ?_
   rintro g ⟨hg, hall⟩
   refine T_seq ?_;refine zr ?_;(iterate 5 refine zz ?_);refine zzn ?_;refine zzc (fun h15 => ?_) fun h15 => ?_
   ·have k15 := of_decide_eq_true h15
    obtain ⟨r, hr⟩ : ∃ r, s.2.1[g]? = some r := ⟨_, List.getElem?_eq_getElem (by omega)⟩
    have hrm := List.mem_of_getElem? hr
    have hrl2 := h.orl _ hrm
    refine T_skip ?_;refine T_seq ?_;refine T_block ?_;refine zr ?_;(iterate 3 refine zz ?_);refine zo (ok_indexAddr rfl rfl rfl (by omega) (y := r) (hr)) ?_;refine zz ?_;refine zf (rsimple_spec (h2 r hrm) hrl2) ?_;refine zz ?_;refine zzn ?_;refine zzc (fun h24 => ?_) fun h24 => ?_
    ·have g2 : simB (pvs2 r) = false := by simpa using h24
     refine zr ?_;refine zz ?_;refine zzn ?_;refine T_ret ?_
     exact ⟨_, [], .one (.tmp rfl), List.nil_sublist _, by rw [code_six g0 g1 hrm g2], rfl⟩
    ·refine T_skip ?_;refine T_region ?_;refine zz ?_;refine za ((g + 1 : Nat) : Int) ?_;refine zz ?_;refine zzn ?_
     exact ⟨g + 1, ⟨by omega, take_all hr (by simpa using h24) hall⟩, by omega, ent_g (subG_cons rfl (subG_cons rfl (trivial)))⟩
   ·have k15 := of_decide_eq_false h15
    refine T_exit ?_;refine zr ?_;refine zz ?_;refine zzn ?_;refine T_ret ?_
    exact ⟨_, [], .one (.tmp rfl), List.nil_sublist _, by rw [code_zero g0 g1 (by rw [show g = s.2.1.length by omega, List.take_length] at hall; exact hall)], rfl⟩
theorem rText_spec {t : List UInt8} {k : Nat} (ht : t.length ≤ 2000) (hv : (parseF t).2 = 0 → VOk (rawS (parseF t).1) k ∧ Rw (rawS (parseF t).1).1 ∧ ∀ r ∈ (rawS (parseF t).1).2.1, Rw r) : PSpec Tryz.prog G 31 [strS t] (tupS [aggS (qsC (textF t).1), intS .i64 (textF t).2]) := by
 have hp := rParse12_spec (G := G) ht
 obtain ⟨⟨q, c⟩, hq⟩ : ∃ x, x = parseF t := ⟨_, rfl⟩
 have htf : textF t = if c = 0 then (if codeQ q = 0 then (q, 0) else (([], [], []), codeQ q)) else (([], [], []), c) := by unfold textF; rw [← hq]
 rw [← hq] at hp hv
 rw [htf]
 simp only at hp hv ⊢
 refine zs Tryz.func31 ?_;refine zr ?_;refine zzv fun b2 => ?_;refine zz ?_;refine zx ?_;refine zz ?_;refine zf hp ?_;(iterate 3 refine zz ?_);refine zzv fun b4 => ?_;refine zw ?_;refine zz ?_;refine zzn ?_;refine T_seqQ (K := fun S1 => ∃ e : Int, e = (if c = 0 then codeQ q else c) ∧ Ent S1 ⟨20, [(5, intS .i64 e), (4, eqS (.pointer (some ⟨b4, 0, none⟩))), (2, eqS (.pointer (some ⟨b2, 0, none⟩)))], [⟨some b4, 54, qsC q, 0⟩, ⟨some b2, 54, [eqS (.slice none 0 0), eqS (.slice none 0 0), eqS (.slice none 0 0)], 0⟩], [], (0, false)⟩) ?_ ?_
 ·refine zr ?_;(iterate 2 refine zz ?_);refine zzn ?_;refine zzc (fun h12 => ?_) fun h12 => ?_
  ·have k12 := beq_iff_eq.1 h12
   refine T_region ?_;refine zo ((show OpOK _ _ _ _ _ (aggS (qsC q)) from ok_load_own_agg 0 rfl rfl rfl (by kernel_rfl) rfl)) ?_;refine zo ((ok_call rfl rfl ((rcode_spec (hv k12).1 (hv k12).2.1 (hv k12).2.2).args (args' := [aggS (qsC q)]) ⟨qs_sc, trivial⟩)).sub (int_eq (by rw [code_nrm, nrm_raw]))) ?_;refine zz ?_;refine zzn ?_
   exact ⟨_, by rw [if_pos k12], ent_h (subG_cons rfl (subG_cons rfl (subG_cons rfl (trivial)))) rfl⟩
  ·have k12 := beq_eq_false_iff_ne.1 h12
   refine T_skip ?_
   exact ⟨_, by rw [if_neg k12], ent_h (subG_cons rfl (subG_cons rfl (subG_cons rfl (trivial)))) rfl⟩
 ·rintro S1 ⟨e, he, hS1⟩
  refine T_pre hS1 ?_;refine T_seq ?_;refine zr ?_;(iterate 2 refine zz ?_);refine zzn ?_;refine zzc (fun h16 => ?_) fun h16 => ?_
  ·have k16 := bne_iff_ne.1 h16
   have hne : ¬ (c = 0 ∧ codeQ q = 0) := fun h => k16 (by rw [he, if_pos h.1, h.2])
   refine zr ?_;refine zo ((show OpOK _ _ _ _ _ (aggS (qsC ([], [], []))) from (ok_build rfl rfl (by kernel_rfl)).sub nil_qs)) ?_;refine zz ?_;refine zw ?_;refine zz ?_;refine zzn ?_;refine T_ret ?_
   exact ⟨_, [], .many (.cons (.agg 1 inferInstance rfl rfl rfl rfl) (.cons (.tmp rfl) (.nil))), List.nil_sublist _, by by_cases h0 : c = 0; rw [if_pos h0, if_neg (fun h => hne ⟨h0, h⟩)]; rw [if_pos h0] at he; rw [he]; rfl; rw [if_neg h0] at he ⊢; rw [he]; rfl, rfl⟩
  ·have k16 := bne_eq_false_iff_eq.1 h16
   have hc0 : c = 0 := Classical.byContradiction fun h => by rw [if_neg h] at he; exact h (he.symm.trans k16)
   have hq0 : codeQ q = 0 := by rw [if_pos hc0] at he; exact he.symm.trans k16
   refine T_skip ?_;refine zr ?_;refine zo ((show OpOK _ _ _ _ _ (aggS (qsC q)) from ok_load_own_agg 0 rfl rfl rfl (by kernel_rfl) rfl)) ?_;refine zw ?_;refine zz ?_;refine zzn ?_;refine T_ret ?_
   exact ⟨_, [], .many (.cons (.agg 1 inferInstance rfl rfl rfl rfl) (.cons (.tmp rfl) (.nil))), List.nil_sublist _, by rw [if_pos hc0, if_pos hq0]; rfl, rfl⟩
theorem rfirst_spec {ns : List Int} : PSpec Tryz.prog G 40 [slS 1 i64C ns] (intS .i64 (fstF ns)) := by
 refine zs Tryz.func40 ?_;refine zr ?_;refine zz ?_;refine zx ?_;refine zz ?_;refine zzn ?_;refine T_seq ?_;refine zr ?_;refine zz ?_;refine zzn ?_;refine T_block ?_;refine T_len 0 rfl fun la => ?_
 unfold big at la
 refine T_loop2 (fun (g : Nat) (c : Int) => ⟨_, [(4, intS .i64 (g : Nat)), (3, intS .i64 c), (0, slS 1 i64C ns)], [], [], (0, false)⟩) (fun g c => g ≤ ns.length ∧ c = fstF (ns.take g)) (fun g _ => ns.length - g) 0 0 ⟨Nat.zero_le _, rfl⟩ (ent_g zk) ?_
 rintro g c ⟨hg, hc⟩
 refine T_seq ?_;refine zr ?_;(iterate 4 refine zz ?_);refine zzn ?_;refine zzc (fun h8 => ?_) fun h8 => ?_
 ·have k8 := of_decide_eq_true h8
  obtain ⟨n, hn⟩ : ∃ n, ns[g]? = some n := ⟨_, List.getElem?_eq_getElem (by omega)⟩
  have hsu : fstF (ns.take (g + 1)) = if n ≠ 0 ∧ (c = 0 ∨ n < c) then n else c := by unfold fstF; rw [foldl_take _ _ hn, hc]; rfl
  refine T_skip ?_;refine T_seq ?_;refine T_block ?_;refine T_seqQ (K := fun S1 => ∃ w : Bool, (w = true ↔ (n ≠ 0 ∧ (c = 0 ∨ n < c))) ∧ Ent S1 ⟨33, [(27, boolS w), (4, intS .i64 (g : Nat)), (3, intS .i64 c), (0, slS 1 i64C ns)], [], [], (0, false)⟩) ?_ ?_
  ·refine T_region ?_;(iterate 2 refine zz ?_);refine zo (ok_indexAddr rfl rfl rfl (by omega) (y := n) (hn)) ?_;refine zz ?_
   refine Run.oneB (ok_cmp rfl rfl rfl rfl) rfl rfl rfl (fun h5_4 => ?_) (fun h5_4 => ?_)
   ·have k5_4 := bne_iff_ne.1 h5_4
    iterate 2 refine zz ?_
    refine Run.oneB (ok_cmp rfl rfl rfl rfl) (gB rfl rfl rfl rfl) rfl rfl (fun h5_7 => ?_) (fun h5_7 => ?_)
    ·have k5_7 := beq_iff_eq.1 h5_7
     refine zz ?_;(iterate 6 refine zq ?_);(iterate 2 refine zz ?_);refine zzn ?_
     exact ⟨true, ⟨fun _ => ⟨k5_4, .inl k5_7⟩, fun _ => rfl⟩, ent_g zk⟩
    ·have k5_7 := beq_eq_false_iff_ne.1 h5_7
     (iterate 3 refine zz ?_);refine zo (ok_indexAddr rfl rfl rfl (by omega) (y := n) (hn)) ?_;(iterate 5 refine zz ?_);refine zzn ?_
     exact ⟨decide (n < c), (by rw [decide_eq_true_iff]; exact ⟨fun h => ⟨k5_4, .inr h⟩, fun h => h.2.resolve_left k5_7⟩), ent_g (subG_cons rfl (subG_cons rfl (subG_cons rfl (subG_cons rfl (trivial)))))⟩
   ·have k5_4 := bne_eq_false_iff_eq.1 h5_4
    refine zz ?_;(iterate 10 refine zq ?_);refine zz ?_;refine zzn ?_
    exact ⟨false, ⟨fun h => (by cases h), fun h => absurd k5_4 h.1⟩, ent_g (subG_cons rfl (subG_cons rfl (subG_cons rfl (subG_cons rfl (trivial)))))⟩
  ·rintro S1 ⟨w, hw, hS1⟩
   refine T_pre hS1 ?_;refine zzc (fun h27 => ?_) fun h27 => ?_
   ·rw [if_pos (hw.1 h27)] at hsu
    refine T_region ?_;(iterate 2 refine zz ?_);refine zo (ok_indexAddr rfl rfl rfl (by omega) (y := n) (hn)) ?_;(iterate 2 refine zz ?_);refine zzn ?_;refine T_region ?_;refine zz ?_;refine za ((g + 1 : Nat) : Int) ?_;refine zz ?_;refine zzn ?_
    exact ⟨g + 1, n, ⟨by omega, hsu.symm⟩, by omega, ent_g zk⟩
   ·rw [if_neg (fun x => by rw [hw.2 x] at h27; cases h27)] at hsu
    refine T_skip ?_;refine T_region ?_;refine zz ?_;refine za ((g + 1 : Nat) : Int) ?_;refine zz ?_;refine zzn ?_
    exact ⟨g + 1, c, ⟨by omega, hsu.symm⟩, by omega, ent_g zk⟩
 ·have k8 := of_decide_eq_false h8
  refine T_exit ?_;refine zr ?_;(iterate 2 refine zz ?_);refine zzn ?_;refine T_ret ?_
  exact ⟨_, [], .one (.tmp rfl), List.nil_sublist _, by rw [hc, show g = ns.length by omega, List.take_length], rfl⟩
end Go.Proofs
/- straitlaw14: the law ValidTells, on the facts. -/
namespace Go.Proofs
open Go Go.Sv Num
variable {G : Imm}
theorem rw_pt {xs : List RawP} {k : Nat} (h : ∀ p ∈ xs, PtOk k p) (hk : k ≤ 10) : Rw xs := rw_small fun p hp => by
 have := h p hp
 refine ⟨⟨⟨this.1.1, this.1.2.1⟩, this.2.1, this.2.2.1⟩, ?_⟩
 unfold tsz
 have a1 := this.1.2.2.1; have a2 := this.1.2.2.2; have a3 := this.2.2.2.1; have a4 := this.2.2.2.2
 omega
theorem validTells_spec [Tab G] [MaxLen G] {s : Sc} (hl : ScLim s) {t : List UInt8} {ns : List Int} : PSpec Tryz.prog G 6 [aggS (scC s), strS t, slS 1 i64C ns] (boolS true) := by
 refine zs Tryz.func6 ?_;refine zr ?_;(iterate 2 refine zz ?_);refine zzn ?_;refine T_seq ?_;refine T_seqQ (K := fun S1 => ∃ w : Bool, (w = false → Sm s ∧ t.length ≤ 800) ∧ Ent S1 ⟨74, [(23, boolS w), (3, ptrS (scC s)), (2, slS 1 i64C ns), (1, strS t)], [], [], (0, false)⟩) ?_ ?_
 ·refine T_region ?_;refine zo ((show OpOK _ _ _ _ _ (aggS (scC s)) from ok_load_agg rfl rfl rfl rfl)) ?_;refine zf vSmall_spec ?_
  refine Run.oneB (ok_not rfl rfl) rfl rfl rfl (fun h1_2 => ?_) (fun h1_2 => ?_)
  ·refine zz ?_;(iterate 3 refine zq ?_);(iterate 2 refine zz ?_);(iterate 3 refine zq ?_);refine zz ?_;refine zzn ?_
   exact ⟨true, (fun h => by cases h), ent_g (subG_cons rfl (subG_cons rfl (subG_cons rfl (subG_cons rfl (trivial)))))⟩
  ·refine zz ?_;refine zz ?_;refine zo (ok_len_str rfl rfl) ?_;refine zz ?_
   refine Run.oneB (ok_pick rfl rfl rfl) rfl rfl rfl (fun h1_7 => ?_) (fun h1_7 => ?_)
   ·have k1_7 := of_decide_eq_true h1_7
    refine zz ?_;(iterate 3 refine zq ?_);refine zz ?_;refine zzn ?_
    exact ⟨true, (fun h => by cases h), ent_g (subG_cons rfl (subG_cons rfl (subG_cons rfl (subG_cons rfl (trivial)))))⟩
   ·have k1_7 := of_decide_eq_false h1_7
    (iterate 5 refine zz ?_);refine zzn ?_
    exact ⟨_, (fun _ => ⟨smB_true (by simpa using h1_2), by omega⟩), ent_g (subG_cons rfl (subG_cons rfl (subG_cons rfl (subG_cons rfl (trivial)))))⟩
 ·rintro S1 ⟨w, hw, hS1⟩
  refine T_pre hS1 ?_;refine zzc (fun h23 => ?_) fun h23 => ?_
  ·refine zr ?_;refine zf wakes14_spec ?_;refine zz ?_;refine zzn ?_;refine T_ret ?_
   exact ⟨_, [], .one (.tmp rfl), List.nil_sublist _, rfl, rfl⟩
  ·obtain ⟨hsm, htl⟩ := hw h23
   have hok := gr_ok hl hsm.1.1
   have hv := vok_of hok (by decide)
   have hs6 : 100000 * 6 + 100000 ≤ cap := by decide
   have pok := parsed_ok (t := t) (by omega)
   have hvt : (parseF t).2 = 0 → VOk (rawS (parseF t).1) 1 := fun h => vok_of (pok h).1 (by decide)
   have r1 : Rw s.1 := rw_pt hv.rob (by decide)
   have r2 : ∀ r ∈ s.2.1, Rw r := fun r hr => rw_pt (hv.obs r hr) (by decide)
   have htx := vText_spec (G := G) (t := t) (by omega) hvt wk_cap
   have hrx := rText_spec (G := G) (t := t) (by omega) fun h => ⟨hvt h, rw_pt (hvt h).rob (by decide), fun r hr => rw_pt ((hvt h).obs r hr) (by decide)⟩
   obtain ⟨⟨a, c⟩, hac⟩ : ∃ x, textF t = x := ⟨_, rfl⟩
   rw [hac] at htx hrx
   refine T_skip ?_;refine zr ?_;refine zz ?_;refine zf htx ?_;(iterate 3 refine zz ?_);refine zzv fun b7 => ?_;refine zw ?_;refine zz ?_;refine zx ?_;refine zz ?_;refine zf hrx ?_;(iterate 3 refine zz ?_);refine zzv fun b9 => ?_;refine zw ?_;refine zz ?_;refine zzn ?_;refine T_drawS 40 (by kernel_rfl) ?_;refine zo ((show OpOK _ _ _ _ _ (aggS (qsC a)) from ok_load_own_agg 1 rfl rfl rfl (by kernel_rfl) rfl)) ?_;refine zo ((show OpOK _ _ _ _ _ (aggS (qsC a)) from ok_load_own_agg 0 rfl rfl rfl (by kernel_rfl) rfl)) ?_;refine zo ((ok_call rfl rfl told12_spec).sub (bool_eq (c := true) (decide_eq_true rfl))) ?_;(iterate 3 refine zz ?_);refine zo ((ok_cmp rfl rfl rfl rfl).sub (bool_eq (c := true) (by simp))) ?_;(iterate 2 refine zz ?_);refine zo ((show OpOK _ _ _ _ _ (aggS (scC s)) from ok_load_agg rfl rfl rfl rfl)) ?_;refine zf (code_spec hv hs6) ?_;refine zo ((show OpOK _ _ _ _ _ (aggS (scC s)) from ok_load_agg rfl rfl rfl rfl)) ?_;refine zf (rcode_spec hv r1 r2) ?_;refine zo ((ok_cmp rfl rfl rfl rfl).sub (bool_eq (c := true) (by simp))) ?_;(iterate 2 refine zz ?_);refine zo ((show OpOK _ _ _ _ _ (aggS (scC s)) from ok_load_agg rfl rfl rfl rfl)) ?_;refine zf (counts_spec hv) ?_;refine zo ((show OpOK _ _ _ _ _ (aggS (scC s)) from ok_load_agg rfl rfl rfl rfl)) ?_;refine zf (rcounts_spec hv) ?_;refine zo ((ok_eql_bool rfl rfl rfl Tryz.isBool4).sub (bool_eq (c := true) (by simp))) ?_;(iterate 2 refine zz ?_);refine zo ((show OpOK _ _ _ _ _ (aggS (scC s)) from ok_load_agg rfl rfl rfl rfl)) ?_;refine zf (tris_spec hv) ?_;refine zo ((show OpOK _ _ _ _ _ (aggS (scC s)) from ok_load_agg rfl rfl rfl rfl)) ?_;refine zf (rtris_spec hv) ?_;refine zo ((ok_cmp rfl rfl rfl rfl).sub (bool_eq (c := true) (by simp))) ?_;(iterate 3 refine zz ?_);refine zf first_spec ?_;refine zz ?_;refine zf rfirst_spec ?_;refine zo ((ok_cmp rfl rfl rfl rfl).sub (bool_eq (c := true) (by simp))) ?_;(iterate 2 refine zz ?_);refine zf wakes14_spec ?_;(iterate 2 refine zz ?_);(iterate 2 refine zzn ?_);refine T_ret ?_
   exact ⟨_, [], .one (.tmp rfl), List.nil_sublist _, rfl, rfl⟩
end Go.Proofs
