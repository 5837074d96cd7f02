/- What the arguments of the laws on points are: opened out of a reading. The table of math/bits out of what is laid. -/
import Derived.Test.YtofplgefmjojjaaGreatDoorSnx
import Derived.Test.YtofplgefmjojjaaGreatDoorSzn
import Derived.Test.YtofplgefmjojjaaGreatDoorRows
namespace Go.Proofs
open Go Go.Sv Num Go.RowKit Go.ChangeShapes Go.WideShapes
theorem Tryz.tab_of {W : World} (h : laidMetH Tryz.prog [("math/bits.deBruijn64tab", YtofplgefmjojjaaGreatDoor.Rows.laid_math_bits_deBruijn64tab)] W) : Tab (immOf W) := by
  rw [MakeChecks.laidMetH_plain _ _ _ (by kernel_rfl)] at h
  obtain ⟨ps, ⟨g0, t0, cs0, f0, p0, q0, hg0, ht0, hv0, hd0, _, _⟩, _, _⟩ := h
  have g1 : Tryz.prog.globalNamed "math/bits.deBruijn64tab" = some 1 := by kernel_rfl
  have t1 : (Tryz.prog.globals[1]?).map (·.type) = some 246 := by kernel_rfl
  obtain rfl := Option.some.inj (g1.symm.trans hg0)
  obtain rfl := Option.some.inj (t1.symm.trans ht0)
  have hl : (YtofplgefmjojjaaGreatDoor.Rows.laid_math_bits_deBruijn64tab : DataW Unit) = .agg ((Lib.deBruijn64tab.map fun n => ((n : Nat) : Int)).map fun z => .lit (.int .u8 z)) := by kernel_rfl
  rw [hl] at hd0
  have hc := open_table (k := .u8) (n := 64) Tryz.underlying246 Tryz.underlying5 (by kernel_rfl) (by kernel_rfl) (by kernel_rfl) hd0
  refine ⟨(immOf_var hg0 hv0).trans ?_⟩
  rw [tabV]
  congr 1
  rw [List.map_map] at hc
  exact Array.ext' hc
section
variable {H : Type} {enc : TypeId × Value → H} {W : World} {base : Nat} {spare : Nat → Bool} {held : Bool}
end
end Go.Proofs
