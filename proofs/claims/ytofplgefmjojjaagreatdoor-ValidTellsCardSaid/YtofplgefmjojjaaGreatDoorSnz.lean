/- What the arguments of the laws on points are: opened out of a reading. The table of math/bits out of what is laid. -/
import Derived.Test.YtofplgefmjojjaaGreatDoorSnx
import Derived.Test.YtofplgefmjojjaaGreatDoorSzn
import Derived.Test.YtofplgefmjojjaaGreatDoorRows
namespace Go.Proofs
open Go Go.Sv Num Go.RowKit Go.ChangeShapes Go.WideShapes
theorem Tryz.tab_of {W : World} (h : laidMetH Tryz.prog [("math/bits.deBruijn64tab", YtofplgefmjojjaaGreatDoor.Rows.laid_math_bits_deBruijn64tab)] W) : Tab (immOf W) := by
 rw [MakeChecks.laidMetH_plain _ _ _ (by kernel_rfl)] at h
 obtain ⟨ps, ⟨g0, t0, cs0, f0, p0, q0, hg0, ht0, hv0, hd0, _, _⟩, _, _⟩ := h
 have g1 : Tryz.prog.globalNamed "math/bits.deBruijn64tab" = some 1 := by kernel_rfl
 have t1 : (Tryz.prog.globals[1]?).map (·.type) = some 246 := by kernel_rfl
 obtain rfl := Option.some.inj (g1.symm.trans hg0)
 obtain rfl := Option.some.inj (t1.symm.trans ht0)
 have hl : (YtofplgefmjojjaaGreatDoor.Rows.laid_math_bits_deBruijn64tab : DataW Unit) = .agg ((Lib.deBruijn64tab.map fun n => ((n : Nat) : Int)).map fun z => .lit (.int .u8 z)) := by kernel_rfl
 rw [hl] at hd0
 have hc := open_table (k := .u8) (n := 64) Tryz.underlying246 Tryz.underlying5 (by kernel_rfl) (by kernel_rfl) (by kernel_rfl) hd0
 refine ⟨(immOf_var hg0 hv0).trans ?_⟩
 rw [tabV]
 congr 1
 rw [List.map_map] at hc
 exact Array.ext' hc
section
variable {H : Type} {enc : TypeId × Value → H} {W : World} {base : Nat} {spare : Nat → Bool} {held : Bool}
theorem Tryz.open_rat {n : Nat} {cs : List Value} {x : DataW H × List MemPlace} (h : DataW.trod enc Tryz.prog W base spare held n 28 cs = some x) (hw : fitsW Tryz.prog 28 x.1) : ∃ y : Bool × List Nat × List Nat, (Lim y.2.1 ∧ Lim y.2.2) ∧ dens (immOf W) (qc y) cs ∧ allOne cs := by
 obtain ⟨c0, c1, y0, y1, n, rfl, h0, w0, h1, w1⟩ := open_two Tryz.underlying28 rfl (by kernel_rfl) (by kernel_rfl) h hw
 obtain ⟨z, hz, hd, ho⟩ := Tryz.open_int h0 w0
 obtain ⟨v, l, rfl, hl, hv⟩ := Tryz.open_nat h1 w1
 refine ⟨(z.1, z.2, l), ⟨hz, hl⟩, hd.append (dens_cons hv dens_nil), fun x hx => ?_⟩
 rcases List.mem_append.1 hx with hx | hx
 ·exact ho x hx
 ·rw [List.mem_singleton.1 hx]
  exact one_slS _ _ hv
theorem Tryz.open_pt {n : Nat} {cs : List Value} {x : DataW H × List MemPlace} (h : DataW.trod enc Tryz.prog W base spare held n 30 cs = some x) (hw : fitsW Tryz.prog 30 x.1) : ∃ p : (Bool × List Nat × List Nat) × (Bool × List Nat × List Nat), ((Lim p.1.2.1 ∧ Lim p.1.2.2) ∧ Lim p.2.2.1 ∧ Lim p.2.2.2) ∧ dens (immOf W) (pc p) cs ∧ allOne cs := by
 obtain ⟨c0, c1, y0, y1, n, rfl, h0, w0, h1, w1⟩ := open_two Tryz.underlying30 rfl (by kernel_rfl) (by kernel_rfl) h hw
 obtain ⟨y, hy, hd, ho⟩ := Tryz.open_rat h0 w0
 obtain ⟨z, hz, hd', ho'⟩ := Tryz.open_rat h1 w1
 refine ⟨(y, z), ⟨hy, hz⟩, hd.append hd', fun x hx => ?_⟩
 rcases List.mem_append.1 hx with hx | hx
 ·exact ho x hx
 ·exact ho' x hx
theorem Tryz.open_pts {n : Nat} {cs : List Value} {x : DataW H × List MemPlace} (h : DataW.trod enc Tryz.prog W base spare held n 22 cs = some x) (hw : fitsW Tryz.prog 22 x.1) : ∃ v l, cs = [v] ∧ (∀ p ∈ l, (Lim p.1.2.1 ∧ Lim p.1.2.2) ∧ Lim p.2.2.1 ∧ Lim p.2.2.2) ∧ (slS 6 pc l).den (immOf W) v :=
 open_list Tryz.underlying22 (by kernel_rfl) (by omega) (of_decide_eq_true (by kernel_rfl)) (fun _ => rfl) (fun _ _ _ h w => Tryz.open_pt h w) h hw
end
end Go.Proofs
