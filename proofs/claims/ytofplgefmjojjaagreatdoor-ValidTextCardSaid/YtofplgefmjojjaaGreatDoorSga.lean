/- Segments in the plane: how two of them meet, as the code finds it and as sets; plain facts. -/
import Derived.Test.YtofplgefmjojjaaGreatDoorSn2
namespace Num
open Go Go.Proofs
abbrev V2 := Rat × Rat
abbrev cr (a b p : V2) : Rat := crs a.1 a.2 b.1 b.2 p.1 p.2
def cmp2 (p q : V2) : Int := triP p.1 p.2 q.1 q.2
def den (a b c d : V2) : Rat := (b.1 - a.1) * (d.2 - c.2) - (b.2 - a.2) * (d.1 - c.1)
def lnR (a b c d : V2) : Rat := ((c.1 - a.1) * (d.2 - c.2) - (c.2 - a.2) * (d.1 - c.1)) / den a b c d
def lnP (a b c d : V2) : V2 := (a.1 + (b.1 - a.1) * lnR a b c d, a.2 + (b.2 - a.2) * lnR a b c d)
abbrev Sg := V2 × V2
def spnB (s : Sg) (p : V2) : Bool := decide (cmp2 s.1 p ≤ 0) && decide (cmp2 p s.2 ≤ 0)
def hasB (s : Sg) (p : V2) : Bool := spnB s p && decide (tri (cr s.1 s.2 p) 0 = 0)
def fromF (a b : V2) : Sg := if 0 < cmp2 a b then (b, a) else (a, b)
def loF (s t : Sg) : V2 := if 0 < cmp2 t.1 s.1 then t.1 else s.1
def hiF (s t : Sg) : V2 := if cmp2 t.2 s.2 < 0 then t.2 else s.2
def noMt : Int × V2 × V2 := (0, (0, 0), (0, 0))
def mtF (s t : Sg) : Int × V2 × V2 :=
 if 0 < cmp2 (loF s t) (hiF s t) then noMt
 else if hasB s (loF s t) && hasB t (loF s t) && hasB s (hiF s t) && hasB t (hiF s t) then ((if cmp2 (loF s t) (hiF s t) = 0 then 1 else 2), loF s t, hiF s t)
 else if den s.1 s.2 t.1 t.2 = 0 then noMt
 else if spnB s (lnP s.1 s.2 t.1 t.2) && spnB t (lnP s.1 s.2 t.1 t.2) then (1, lnP s.1 s.2 t.1 t.2, lnP s.1 s.2 t.1 t.2) else noMt
def kin (a b c d : V2) : Int := (mtF (fromF a b) (fromF c d)).1
def sub2 (p v : V2) : V2 := (p.1 - v.1, p.2 - v.2)
end Num
/- Polygons: which are simple, by each two of their edges; begun elsewhere, turned about, moved; plain facts. -/
namespace Num
open Go Go.Proofs
def cor (l : List V2) (i : Nat) : V2 := l.getD (i % l.length) (0, 0)
def wantF (n i j : Nat) : Int := if j = i + 1 ∨ (i = 0 ∧ j + 1 = n) then 1 else 0
def prs (n : Nat) : List (Nat × Nat) := (List.range n).flatMap fun i => ((List.range n).filter fun j => decide (i < j)).map fun j => (i, j)
def prOk (l : List V2) (x : Nat × Nat) : Bool := !decide (cor l x.1 = cor l x.2) && decide (kin (cor l x.1) (cor l (x.1 + 1)) (cor l x.2) (cor l (x.2 + 1)) = wantF l.length x.1 x.2)
def simB (l : List V2) : Bool := decide (3 ≤ l.length) && (prs l.length).all (prOk l)
theorem mem_prs {n i j : Nat} : (i, j) ∈ prs n ↔ i < j ∧ j < n := by
 unfold prs
 simp only [List.mem_flatMap, List.mem_map, List.mem_filter, List.mem_range, decide_eq_true_eq, Prod.mk.injEq]
 constructor
 ·rintro ⟨a, _, b, ⟨hb, hab⟩, rfl, rfl⟩; exact ⟨hab, hb⟩
 ·rintro ⟨h1, h2⟩; exact ⟨i, by omega, j, ⟨h2, h1⟩, rfl, rfl⟩
def adj (n i j : Nat) : Prop := (i + 1) % n = j % n ∨ (j + 1) % n = i % n
instance (n i j : Nat) : Decidable (adj n i j) := inferInstanceAs (Decidable (_ ∨ _))
def Per (n : Nat) (c : Nat → V2) : Prop := ∀ i, c (i % n) = c i
theorem cor_per (l : List V2) : Per l.length (cor l) := fun i => by unfold cor; rw [Nat.mod_mod]
/-! the same of lists -/
/-! turns -/
def trn (c : Nat → V2) (n i : Nat) : Int := tri (cr (c (i + n - 1)) (c i) (c (i + 1))) 0
def turnL (l : List V2) : List Int := if l.length < 3 then [] else (List.range l.length).map (trn (cor l) l.length)
def cvxB (l : List V2) : Bool := (turnL l).all (fun n => decide (n = 1)) && simB l
end Num
/- Polygons: an edge's inner point put in; plain facts. -/
namespace Num
open Go Go.Proofs
section
variable {a b : V2} {t : Rat} (h0 : 0 < t) (h1 : t < 1) (hab : a ≠ b)
include h0 h1
include hab
end
end Num
/- Polygons: area and flat corners, begun elsewhere, and with an edge's inner point put in; plain facts. -/
namespace Num
open Go Go.Proofs
def perL {α : Type} (n : Nat) (h : Nat → α) : List α := (List.range n).map h
theorem perL_length {α : Type} (n : Nat) (h : Nat → α) : (perL n h).length = n := by unfold perL; simp
theorem perL_succ {α : Type} (n : Nat) (h : Nat → α) : perL (n + 1) h = perL n h ++ [h n] := by unfold perL; rw [List.range_succ, List.map_append]; rfl
abbrev x2 (a b : V2) : Rat := a.1 * b.2 - a.2 * b.1
end Num
