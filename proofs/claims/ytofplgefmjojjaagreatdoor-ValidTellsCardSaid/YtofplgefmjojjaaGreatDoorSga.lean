/- Segments in the plane: how two of them meet, as the code finds it and as sets; plain facts. -/
import Derived.Test.YtofplgefmjojjaaGreatDoorSn2
namespace Num
open Go Go.Proofs
abbrev V2 := Rat × Rat
abbrev cr (a b p : V2) : Rat := crs a.1 a.2 b.1 b.2 p.1 p.2
def cmp2 (p q : V2) : Int := triP p.1 p.2 q.1 q.2
def le2 (p q : V2) : Prop := p.1 < q.1 ∨ (p.1 = q.1 ∧ p.2 ≤ q.2)
def onS (a b p : V2) : Prop := cr a b p = 0 ∧ btw a.1 b.1 p.1 ∧ btw a.2 b.2 p.2
theorem tri_pos {p q : Rat} : 0 < tri p q ↔ q < p := by unfold tri; split <;> (try split) <;> constructor <;> intro h <;> first | grind | (exfalso; grind)
theorem tri_lt {p q : Rat} : tri p q < 0 ↔ p < q := by unfold tri; split <;> (try split) <;> constructor <;> intro h <;> first | grind | (exfalso; grind)
theorem cmp2_le {p q : V2} : cmp2 p q ≤ 0 ↔ le2 p q := by
 unfold cmp2 triP le2
 by_cases h : tri p.1 q.1 = 0
 ·rw [if_pos h]
  have e := tri_eq.1 h
  have h2 := tri_pos (p := p.2) (q := q.2)
  constructor
  ·intro h1; exact .inr ⟨e, by grind⟩
  ·rintro (h1 | h1)
   ·grind
   ·grind
 ·rw [if_neg h]
  have e : ¬ p.1 = q.1 := fun e => h (tri_eq.2 e)
  have h2 := tri_lt (p := p.1) (q := q.1)
  have h3 := tri_pos (p := p.1) (q := q.1)
  constructor
  ·intro h1; exact .inl (by grind)
  ·rintro (h1 | h1)
   ·grind
   ·exact absurd h1.1 e
theorem cmp2_pos {p q : V2} : 0 < cmp2 p q ↔ ¬ le2 p q := by rw [← cmp2_le]; omega
theorem le2_total (p q : V2) : le2 p q ∨ le2 q p := by unfold le2; grind
theorem le2_refl (p : V2) : le2 p p := by unfold le2; grind
theorem le2_trans {p q r : V2} (h1 : le2 p q) (h2 : le2 q r) : le2 p r := by unfold le2 at *; grind
theorem le2_anti {p q : V2} (h1 : le2 p q) (h2 : le2 q p) : p = q := by unfold le2 at *; exact Prod.ext (by grind) (by grind)
theorem cmp2_zero {p q : V2} : cmp2 p q = 0 ↔ p = q := by
 have := triP_zero (x := p.1) (y := p.2) (u := q.1) (v := q.2)
 unfold cmp2
 constructor
 ·intro h
  rw [h] at this
  have := of_decide_eq_true this.symm
  exact Prod.ext this.1 this.2
 ·rintro rfl
  rw [decide_eq_true ⟨rfl, rfl⟩] at this
  exact beq_iff_eq.1 this
theorem cmp2_neg {p q : V2} : cmp2 p q < 0 ↔ ¬ le2 q p := by
 have h1 := cmp2_le (p := p) (q := q)
 have h2 := cmp2_zero (p := p) (q := q)
 constructor
 ·intro h hq
  have := le2_anti (h1.1 (by omega)) hq
  exact absurd (h2.2 this) (by omega)
 ·intro h
  have h3 := (le2_total p q).resolve_right h
  have h4 := h1.2 h3
  have h5 : cmp2 p q ≠ 0 := fun e => h (by rw [h2.1 e]; exact le2_refl _)
  omega
theorem on_comm {a b p : V2} : onS b a p ↔ onS a b p := onP_comm ..
theorem mid_y {w z u v : Rat} (hw : 0 < w) (hz : 0 ≤ z) (hz2 : z ≤ w) (h : w * v = u * z) : btw 0 u v := by
 by_cases hu : 0 ≤ u
 ·left
  have g1 := Rat.mul_nonneg hu hz
  have g2 := Rat.mul_nonneg hu (show 0 ≤ w - z by grind)
  constructor
  ·refine Rat.not_lt.1 fun hv => ?_
   have := Rat.mul_pos hw (show 0 < -v by grind)
   grind
  ·refine Rat.not_lt.1 fun hv => ?_
   have := Rat.mul_pos hw (show 0 < v - u by grind)
   grind
 ·right
  have g1 := Rat.mul_nonneg (show 0 ≤ -u by grind) hz
  have g2 := Rat.mul_nonneg (show 0 ≤ -u by grind) (show 0 ≤ w - z by grind)
  constructor
  ·refine Rat.not_lt.1 fun hv => ?_
   have := Rat.mul_pos hw (show 0 < u - v by grind)
   grind
  ·refine Rat.not_lt.1 fun hv => ?_
   have := Rat.mul_pos hw (show 0 < v by grind)
   grind
theorem mz {d x : Rat} (h : d * x = 0) (hd : d ≠ 0) : x = 0 := (Rat.mul_eq_zero.1 h).resolve_left hd
theorem on_iff {a b p : V2} (h : le2 a b) : onS a b p ↔ cr a b p = 0 ∧ le2 a p ∧ le2 p b := by
 obtain ⟨a1, a2⟩ := a; obtain ⟨b1, b2⟩ := b; obtain ⟨p1, p2⟩ := p
 unfold onS le2 at *
 simp only at *
 constructor
 ·rintro ⟨hc, hx, hy⟩
  refine ⟨hc, ?_⟩
  unfold cr crs at hc
  rcases h with h | ⟨h, h'⟩
  ·have h1 : a1 ≤ p1 ∧ p1 ≤ b1 := by grind
   constructor
   ·by_cases e : a1 = p1
    ·right
     refine ⟨e, ?_⟩
     have : (b1 - a1) * (p2 - a2) = 0 := by grind
     have := mz this (by grind)
     grind
    ·left; grind
   ·by_cases e : p1 = b1
    ·right
     refine ⟨e, ?_⟩
     have : (b1 - a1) * (p2 - b2) = 0 := by grind
     have := mz this (by grind)
     grind
    ·left; grind
  ·constructor <;> right <;> grind
 ·rintro ⟨hc, h1, h2⟩
  refine ⟨hc, ?_⟩
  unfold cr crs at hc
  rcases h with h | ⟨h, h'⟩
  ·have hx : a1 ≤ p1 ∧ p1 ≤ b1 := by grind
   refine ⟨.inl hx, ?_⟩
   have := mid_y (w := b1 - a1) (z := p1 - a1) (u := b2 - a2) (v := p2 - a2) (by grind) (by grind) (by grind) (by grind)
   unfold btw at this ⊢
   grind
  ·constructor <;> left <;> grind
theorem ne2 {p q : V2} (h : p ≠ q) : q.1 - p.1 ≠ 0 ∨ q.2 - p.2 ≠ 0 := by
 by_cases h1 : q.1 - p.1 = 0
 ·right; intro h2; exact h (Prod.ext (by grind) (by grind))
 ·exact .inl h1
theorem col {a b p q x : V2} (hab : a ≠ b) (hp : cr a b p = 0) (hq : cr a b q = 0) (hx : cr a b x = 0) : cr p q x = 0 := by
 unfold cr crs at hp hq hx
 rcases ne2 hab with h | h <;> refine mz ?_ h <;> unfold cr crs <;> grind
theorem line_in {c d p q x : V2} (hpq : p ≠ q) (hp : cr c d p = 0) (hq : cr c d q = 0) (hx : cr p q x = 0) : cr c d x = 0 := by
 unfold cr crs at hp hq hx
 rcases ne2 hpq with h | h <;> refine mz ?_ h <;> unfold cr crs <;> grind
def den (a b c d : V2) : Rat := (b.1 - a.1) * (d.2 - c.2) - (b.2 - a.2) * (d.1 - c.1)
theorem par_in {a b c d p x : V2} (hab : a ≠ b) (hp : cr a b p = 0) (hq : cr c d p = 0) (hd : den a b c d = 0) (hx : cr a b x = 0) : cr c d x = 0 := by
 unfold cr crs at hp hq hx
 unfold den at hd
 rcases ne2 hab with h | h <;> refine mz ?_ h <;> unfold cr crs <;> grind
theorem den_comm (a b c d : V2) : den c d a b = -den a b c d := by unfold den; grind
theorem cross_one {a b c d p q : V2} (hd : den a b c d ≠ 0) (hp : cr a b p = 0) (hp2 : cr c d p = 0) (hq : cr a b q = 0) (hq2 : cr c d q = 0) : p = q := by
 unfold cr crs at hp hp2 hq hq2
 have h1 : den a b c d * (p.1 - q.1) = 0 := by unfold den; grind
 have h2 : den a b c d * (p.2 - q.2) = 0 := by unfold den; grind
 exact Prod.ext (by have := mz h1 hd; grind) (by have := mz h2 hd; grind)
def lnR (a b c d : V2) : Rat := ((c.1 - a.1) * (d.2 - c.2) - (c.2 - a.2) * (d.1 - c.1)) / den a b c d
def lnP (a b c d : V2) : V2 := (a.1 + (b.1 - a.1) * lnR a b c d, a.2 + (b.2 - a.2) * lnR a b c d)
theorem lnP_on {a b c d : V2} (hd : den a b c d ≠ 0) : cr a b (lnP a b c d) = 0 ∧ cr c d (lnP a b c d) = 0 := by
 refine ⟨crs_at .., ?_⟩
 have ht : lnR a b c d * den a b c d = (c.1 - a.1) * (d.2 - c.2) - (c.2 - a.2) * (d.1 - c.1) := Rat.div_mul_cancel hd
 unfold lnP cr crs
 simp only
 unfold den at ht
 grind
abbrev Sg := V2 × V2
def spnB (s : Sg) (p : V2) : Bool := decide (cmp2 s.1 p ≤ 0) && decide (cmp2 p s.2 ≤ 0)
def hasB (s : Sg) (p : V2) : Bool := spnB s p && decide (tri (cr s.1 s.2 p) 0 = 0)
def fromF (a b : V2) : Sg := if 0 < cmp2 a b then (b, a) else (a, b)
def loF (s t : Sg) : V2 := if 0 < cmp2 t.1 s.1 then t.1 else s.1
def hiF (s t : Sg) : V2 := if cmp2 t.2 s.2 < 0 then t.2 else s.2
def noMt : Int × V2 × V2 := (0, (0, 0), (0, 0))
def mtF (s t : Sg) : Int × V2 × V2 :=
 if 0 < cmp2 (loF s t) (hiF s t) then noMt
 else if hasB s (loF s t) && hasB t (loF s t) && hasB s (hiF s t) && hasB t (hiF s t) then ((if cmp2 (loF s t) (hiF s t) = 0 then 1 else 2), loF s t, hiF s t)
 else if den s.1 s.2 t.1 t.2 = 0 then noMt
 else if spnB s (lnP s.1 s.2 t.1 t.2) && spnB t (lnP s.1 s.2 t.1 t.2) then (1, lnP s.1 s.2 t.1 t.2, lnP s.1 s.2 t.1 t.2) else noMt
def SK (I : V2 → Prop) (k : Int) : Prop := (k = 0 ∧ ∀ p, ¬ I p) ∨ (k = 1 ∧ ∃ p, I p ∧ ∀ q, I q → q = p) ∨ (k = 2 ∧ ∃ p q, I p ∧ I q ∧ p ≠ q)
theorem SK.map {I J : V2 → Prop} {k : Int} (f g : V2 → V2) (hf : ∀ p, I p → J (f p)) (hg : ∀ p, J p → I (g p)) (hfg : ∀ p, f (g p) = p) (hgf : ∀ p, g (f p) = p) (h : SK I k) : SK J k := by
 rcases h with ⟨rfl, h⟩ | ⟨rfl, p, h1, h2⟩ | ⟨rfl, p, q, h1, h2, h3⟩
 ·exact .inl ⟨rfl, fun p hp => h _ (hg p hp)⟩
 ·exact .inr (.inl ⟨rfl, f p, hf p h1, fun q hq => by rw [← hfg q, h2 _ (hg q hq)]⟩)
 ·exact .inr (.inr ⟨rfl, f p, f q, hf p h1, hf q h2, fun e => h3 (by rw [← hgf p, e, hgf])⟩)
theorem SK.congr {I J : V2 → Prop} {k : Int} (h : ∀ p, I p ↔ J p) (hk : SK I k) : SK J k := hk.map id id (fun p => (h p).1) (fun p => (h p).2) (fun _ => rfl) (fun _ => rfl)
theorem spn_iff {s : Sg} {p : V2} : spnB s p = true ↔ le2 s.1 p ∧ le2 p s.2 := by unfold spnB; rw [Bool.and_eq_true, decide_eq_true_iff, decide_eq_true_iff, cmp2_le, cmp2_le]
theorem has_iff {s : Sg} {p : V2} (h : le2 s.1 s.2) : hasB s p = true ↔ onS s.1 s.2 p := by
 unfold hasB; rw [Bool.and_eq_true, spn_iff, decide_eq_true_iff, tri_eq, on_iff h]
 exact And.comm
theorem lo_le {s t : Sg} {p : V2} (h1 : le2 s.1 p) (h2 : le2 t.1 p) : le2 (loF s t) p := by unfold loF; split <;> assumption
theorem hi_le {s t : Sg} {p : V2} (h1 : le2 p s.2) (h2 : le2 p t.2) : le2 p (hiF s t) := by unfold hiF; split <;> assumption
theorem le_lo (s t : Sg) : le2 s.1 (loF s t) ∧ le2 t.1 (loF s t) := by
 unfold loF; split
 ·rename_i h
  rw [cmp2_pos] at h
  exact ⟨(le2_total _ _).resolve_right h, le2_refl _⟩
 ·rename_i h
  rw [cmp2_pos] at h
  exact ⟨le2_refl _, Classical.not_not.1 h⟩
theorem le_hi (s t : Sg) : le2 (hiF s t) s.2 ∧ le2 (hiF s t) t.2 := by
 unfold hiF; split
 ·rename_i h
  rw [cmp2_neg] at h
  exact ⟨(le2_total _ _).resolve_right h, le2_refl _⟩
 ·rename_i h
  rw [cmp2_neg] at h
  exact ⟨le2_refl _, Classical.not_not.1 h⟩
abbrev In (s t : Sg) (p : V2) : Prop := onS s.1 s.2 p ∧ onS t.1 t.2 p
theorem cr_left (a b : V2) : cr a b a = 0 := crs_end0 ..
theorem cr_right (a b : V2) : cr a b b = 0 := crs_end ..
theorem both_lines {s t : Sg} (hs : le2 s.1 s.2) (ht : le2 t.1 t.2) (h1 : cr s.1 s.2 t.1 = 0) (h2 : cr s.1 s.2 t.2 = 0) (h3 : cr t.1 t.2 s.1 = 0) (h4 : cr t.1 t.2 s.2 = 0) (hl : le2 (loF s t) (hiF s t)) :
  (hasB s (loF s t) && hasB t (loF s t) && hasB s (hiF s t) && hasB t (hiF s t)) = true := by
 have a1 := le_lo s t
 have a2 := le_hi s t
 have c1 : cr s.1 s.2 (loF s t) = 0 ∧ cr t.1 t.2 (loF s t) = 0 := by
  unfold loF; split
  ·exact ⟨h1, cr_left _ _⟩
  ·exact ⟨cr_left _ _, h3⟩
 have c2 : cr s.1 s.2 (hiF s t) = 0 ∧ cr t.1 t.2 (hiF s t) = 0 := by
  unfold hiF; split
  ·exact ⟨h2, cr_right _ _⟩
  ·exact ⟨cr_right _ _, h4⟩
 simp only [Bool.and_eq_true]
 refine ⟨⟨⟨(has_iff hs).2 ((on_iff hs).2 ⟨c1.1, a1.1, le2_trans hl a2.1⟩), (has_iff ht).2 ((on_iff ht).2 ⟨c1.2, a1.2, le2_trans hl a2.2⟩)⟩, (has_iff hs).2 ((on_iff hs).2 ⟨c2.1, le2_trans a1.1 hl, a2.1⟩)⟩, (has_iff ht).2 ((on_iff ht).2 ⟨c2.2, le2_trans a1.2 hl, a2.2⟩)⟩
theorem mt_sem {s t : Sg} (hs : le2 s.1 s.2) (ht : le2 t.1 t.2) : SK (In s t) (mtF s t).1 := by
 have lohi : ∀ p, In s t p → le2 (loF s t) p ∧ le2 p (hiF s t) := fun p ⟨h1, h2⟩ => by
  have g1 := ((on_iff hs).1 h1).2
  have g2 := ((on_iff ht).1 h2).2
  exact ⟨lo_le g1.1 g2.1, hi_le g1.2 g2.2⟩
 unfold mtF
 by_cases c1 : 0 < cmp2 (loF s t) (hiF s t)
 ·rw [if_pos c1]
  rw [cmp2_pos] at c1
  exact .inl ⟨rfl, fun p hp => c1 (le2_trans (lohi p hp).1 (lohi p hp).2)⟩
 ·rw [if_neg c1]
  have hl : le2 (loF s t) (hiF s t) := by rw [cmp2_pos] at c1; exact Classical.not_not.1 c1
  by_cases c2 : (hasB s (loF s t) && hasB t (loF s t) && hasB s (hiF s t) && hasB t (hiF s t)) = true
  ·rw [if_pos c2]
   simp only [Bool.and_eq_true] at c2
   obtain ⟨⟨⟨d1, d2⟩, d3⟩, d4⟩ := c2
   have i1 : In s t (loF s t) := ⟨(has_iff hs).1 d1, (has_iff ht).1 d2⟩
   have i2 : In s t (hiF s t) := ⟨(has_iff hs).1 d3, (has_iff ht).1 d4⟩
   by_cases e : cmp2 (loF s t) (hiF s t) = 0
   ·rw [if_pos e]
    rw [cmp2_zero] at e
    exact .inr (.inl ⟨rfl, _, i1, fun q hq => le2_anti (by rw [e]; exact (lohi q hq).2) (lohi q hq).1⟩)
   ·rw [if_neg e]
    exact .inr (.inr ⟨rfl, _, _, i1, i2, fun h => e (cmp2_zero.2 h)⟩)
  ·rw [if_neg c2]
   -- no two points
   have one : ∀ p q, In s t p → In s t q → p = q := fun p q hp hq => by
    refine Classical.byContradiction fun hpq => c2 ?_
    have ps := (on_iff hs).1 hp.1
    have qs := (on_iff hs).1 hq.1
    have pt := (on_iff ht).1 hp.2
    have qt := (on_iff ht).1 hq.2
    have ns : s.1 ≠ s.2 := fun e => hpq ((le2_anti (by rw [e]; exact ps.2.2) ps.2.1).trans (le2_anti (by rw [e]; exact qs.2.2) qs.2.1).symm)
    have nt : t.1 ≠ t.2 := fun e => hpq ((le2_anti (by rw [e]; exact pt.2.2) pt.2.1).trans (le2_anti (by rw [e]; exact qt.2.2) qt.2.1).symm)
    refine both_lines hs ht ?_ ?_ ?_ ?_ hl
    ·exact line_in hpq ps.1 qs.1 (col nt pt.1 qt.1 (cr_left _ _))
    ·exact line_in hpq ps.1 qs.1 (col nt pt.1 qt.1 (cr_right _ _))
    ·exact line_in hpq pt.1 qt.1 (col ns ps.1 qs.1 (cr_left _ _))
    ·exact line_in hpq pt.1 qt.1 (col ns ps.1 qs.1 (cr_right _ _))
   by_cases c3 : den s.1 s.2 t.1 t.2 = 0
   ·rw [if_pos c3]
    refine .inl ⟨rfl, fun p hp => c2 ?_⟩
    have ps := (on_iff hs).1 hp.1
    have pt := (on_iff ht).1 hp.2
    by_cases ns : s.1 = s.2
    ·have e : p = s.1 := le2_anti (by rw [ns]; exact ps.2.2) ps.2.1
     refine both_lines hs ht ?_ ?_ (by rw [← e]; exact pt.1) (by rw [← ns, ← e]; exact pt.1) hl
     ·rw [ns]; exact crs_same ..
     ·rw [ns]; exact crs_same ..
    ·by_cases nt : t.1 = t.2
     ·have e : p = t.1 := le2_anti (by rw [nt]; exact pt.2.2) pt.2.1
      refine both_lines hs ht (by rw [← e]; exact ps.1) (by rw [← nt, ← e]; exact ps.1) ?_ ?_ hl
      ·rw [nt]; exact crs_same ..
      ·rw [nt]; exact crs_same ..
     ·have c4 : den t.1 t.2 s.1 s.2 = 0 := by rw [den_comm, c3]; rfl
      exact both_lines hs ht (par_in nt pt.1 ps.1 c4 (cr_left _ _)) (par_in nt pt.1 ps.1 c4 (cr_right _ _)) (par_in ns ps.1 pt.1 c3 (cr_left _ _)) (par_in ns ps.1 pt.1 c3 (cr_right _ _)) hl
   ·rw [if_neg c3]
    obtain ⟨l1, l2⟩ := lnP_on c3
    by_cases c4 : (spnB s (lnP s.1 s.2 t.1 t.2) && spnB t (lnP s.1 s.2 t.1 t.2)) = true
    ·rw [if_pos c4]
     rw [Bool.and_eq_true, spn_iff, spn_iff] at c4
     have hi : In s t (lnP s.1 s.2 t.1 t.2) := ⟨(on_iff hs).2 ⟨l1, c4.1⟩, (on_iff ht).2 ⟨l2, c4.2⟩⟩
     exact .inr (.inl ⟨rfl, _, hi, fun q hq => one _ _ hq hi⟩)
    ·rw [if_neg c4]
     refine .inl ⟨rfl, fun p hp => c4 ?_⟩
     have ps := (on_iff hs).1 hp.1
     have pt := (on_iff ht).1 hp.2
     have e := cross_one c3 ps.1 pt.1 l1 l2
     rw [← e, Bool.and_eq_true, spn_iff, spn_iff]
     exact ⟨ps.2, pt.2⟩
theorem from_le (a b : V2) : le2 (fromF a b).1 (fromF a b).2 := by
 unfold fromF; split
 ·rename_i h; rw [cmp2_pos] at h; exact (le2_total _ _).resolve_left h
 ·rename_i h; rw [cmp2_pos] at h; exact Classical.not_not.1 h
theorem from_on {a b p : V2} : onS (fromF a b).1 (fromF a b).2 p ↔ onS a b p := by
 unfold fromF; split
 ·exact on_comm
 ·exact Iff.rfl
def kin (a b c d : V2) : Int := (mtF (fromF a b) (fromF c d)).1
abbrev Bo (a b c d p : V2) : Prop := onS a b p ∧ onS c d p
theorem kin_sem (a b c d : V2) : SK (Bo a b c d) (kin a b c d) := (mt_sem (from_le a b) (from_le c d)).congr fun p => by unfold In Bo; rw [from_on, from_on]
def sub2 (p v : V2) : V2 := (p.1 - v.1, p.2 - v.2)
end Num
/- Polygons: which are simple, by each two of their edges; begun elsewhere, turned about, moved; plain facts. -/
namespace Num
open Go Go.Proofs
def cor (l : List V2) (i : Nat) : V2 := l.getD (i % l.length) (0, 0)
def wantF (n i j : Nat) : Int := if j = i + 1 ∨ (i = 0 ∧ j + 1 = n) then 1 else 0
def prs (n : Nat) : List (Nat × Nat) := (List.range n).flatMap fun i => ((List.range n).filter fun j => decide (i < j)).map fun j => (i, j)
def prOk (l : List V2) (x : Nat × Nat) : Bool := !decide (cor l x.1 = cor l x.2) && decide (kin (cor l x.1) (cor l (x.1 + 1)) (cor l x.2) (cor l (x.2 + 1)) = wantF l.length x.1 x.2)
def simB (l : List V2) : Bool := decide (3 ≤ l.length) && (prs l.length).all (prOk l)
theorem mem_prs {n i j : Nat} : (i, j) ∈ prs n ↔ i < j ∧ j < n := by
 unfold prs
 simp only [List.mem_flatMap, List.mem_map, List.mem_filter, List.mem_range, decide_eq_true_eq, Prod.mk.injEq]
 constructor
 ·rintro ⟨a, _, b, ⟨hb, hab⟩, rfl, rfl⟩; exact ⟨hab, hb⟩
 ·rintro ⟨h1, h2⟩; exact ⟨i, by omega, j, ⟨h2, h1⟩, rfl, rfl⟩
def adj (n i j : Nat) : Prop := (i + 1) % n = j % n ∨ (j + 1) % n = i % n
instance (n i j : Nat) : Decidable (adj n i j) := inferInstanceAs (Decidable (_ ∨ _))
def Per (n : Nat) (c : Nat → V2) : Prop := ∀ i, c (i % n) = c i
theorem cor_per (l : List V2) : Per l.length (cor l) := fun i => by unfold cor; rw [Nat.mod_mod]
/-! the same of lists -/
/-! turns -/
def trn (c : Nat → V2) (n i : Nat) : Int := tri (cr (c (i + n - 1)) (c i) (c (i + 1))) 0
def turnL (l : List V2) : List Int := if l.length < 3 then [] else (List.range l.length).map (trn (cor l) l.length)
def cvxB (l : List V2) : Bool := (turnL l).all (fun n => decide (n = 1)) && simB l
end Num
/- Polygons: an edge's inner point put in; plain facts. -/
namespace Num
open Go Go.Proofs
def atP (a b : V2) (t : Rat) : V2 := (a.1 + (b.1 - a.1) * t, a.2 + (b.2 - a.2) * t)
theorem on_par {a b q : V2} : onS a b q ↔ ∃ s, 0 ≤ s ∧ s ≤ 1 ∧ q = atP a b s := by
 constructor
 ·intro h
  have hc := h.1
  unfold cr crs at hc
  have fin : ∀ s, q = atP a b s → ∃ s, 0 ≤ s ∧ s ≤ 1 ∧ q = atP a b s := fun s e => by
   subst e
   rcases onP_at.1 h with ⟨h1, h2⟩ | ⟨h1, h2⟩
   ·exact ⟨s, h1, h2, rfl⟩
   ·exact ⟨0, by grind, by grind, Prod.ext (by show a.1 + (b.1 - a.1) * s = a.1 + (b.1 - a.1) * 0; rw [h1]; grind) (by show a.2 + (b.2 - a.2) * s = a.2 + (b.2 - a.2) * 0; rw [h2]; grind)⟩
  by_cases h1 : b.1 - a.1 = 0
  ·by_cases h2 : b.2 - a.2 = 0
   ·have e1 : q.1 = a.1 := by have := h.2.1; unfold btw at this; grind
    have e2 : q.2 = a.2 := by have := h.2.2; unfold btw at this; grind
    exact fin 0 (Prod.ext (by show q.1 = a.1 + (b.1 - a.1) * 0; grind) (by show q.2 = a.2 + (b.2 - a.2) * 0; grind))
   ·have e : (q.2 - a.2) / (b.2 - a.2) * (b.2 - a.2) = q.2 - a.2 := Rat.div_mul_cancel h2
    refine fin ((q.2 - a.2) / (b.2 - a.2)) (Prod.ext ?_ ?_)
    ·show q.1 = a.1 + (b.1 - a.1) * _
     have := mz (d := b.2 - a.2) (x := q.1 - a.1) (by grind) h2
     rw [h1]; grind
    ·show q.2 = a.2 + (b.2 - a.2) * _
     grind
  ·have e : (q.1 - a.1) / (b.1 - a.1) * (b.1 - a.1) = q.1 - a.1 := Rat.div_mul_cancel h1
   refine fin ((q.1 - a.1) / (b.1 - a.1)) (Prod.ext ?_ ?_)
   ·show q.1 = a.1 + (b.1 - a.1) * _
    grind
   ·show q.2 = a.2 + (b.2 - a.2) * _
    obtain ⟨s, hs⟩ : ∃ s, s = (q.1 - a.1) / (b.1 - a.1) := ⟨_, rfl⟩
    rw [← hs] at e ⊢
    have := mz (d := b.1 - a.1) (x := q.2 - a.2 - (b.2 - a.2) * s) (by grind) h1
    grind
 ·rintro ⟨s, h0, h1, rfl⟩
  exact onP_at.2 (.inl ⟨h0, h1⟩)
theorem at_zero (a b : V2) : atP a b 0 = a := Prod.ext (by show a.1 + (b.1 - a.1) * 0 = _; grind) (by show a.2 + (b.2 - a.2) * 0 = _; grind)
section
variable {a b : V2} {t : Rat} (h0 : 0 < t) (h1 : t < 1) (hab : a ≠ b)
include h0 h1
include hab
end
theorem on_left (a b : V2) : onS a b a := on_par.2 ⟨0, by grind, by grind, (at_zero a b).symm⟩
theorem want_one {n i j : Nat} (h : j = i + 1 ∨ (i = 0 ∧ j + 1 = n)) : wantF n i j = 1 := if_pos h
theorem want_none {n i j : Nat} (h : ¬ (j = i + 1 ∨ (i = 0 ∧ j + 1 = n))) : wantF n i j = 0 := if_neg h
end Num
/- Polygons: area and flat corners, begun elsewhere, and with an edge's inner point put in; plain facts. -/
namespace Num
open Go Go.Proofs
def perL {α : Type} (n : Nat) (h : Nat → α) : List α := (List.range n).map h
theorem perL_length {α : Type} (n : Nat) (h : Nat → α) : (perL n h).length = n := by unfold perL; simp
theorem perL_succ {α : Type} (n : Nat) (h : Nat → α) : perL (n + 1) h = perL n h ++ [h n] := by unfold perL; rw [List.range_succ, List.map_append]; rfl
abbrev x2 (a b : V2) : Rat := a.1 * b.2 - a.2 * b.1
end Num
