/- A text as an argument, and the table of the powers of ten as laid. -/
import Derived.Test.YtcdlcfihjfhkgaaGreatDoorSsk
import Derived.Test.YtcdlcfihjfhkgaaGreatDoorSnx
import Derived.Test.YtcdlcfihjfhkgaaGreatDoorSv2
import Derived.Test.YtcdlcfihjfhkgaaGreatDoorRows
import Derived.ChangeMaps5
import Derived.Lib.LaidU8
import Derived.Lay
import Derived.Shelf.Vars
namespace Go.Sv
open Go Go.RowKit Go.ChangeShapes Go.WideShapes
section
variable {H : Type} {enc : TypeId × Value → H} {P : Program} {W : World} {Q : List SV → Prop} {t : TypeId} {ts : List TypeId} {ss : List SV}
end
end Go.Sv
namespace Go.Proofs
open Go Go.Sv Num Go.RowKit Go.ChangeShapes Go.WideShapes
theorem Tryz.tab10_of {L : List (String × DataW Unit)} {W : World} (h : laidMet Tryz.prog L W) (hm : ("internal/strconv.uint64pow10", YtcdlcfihjfhkgaaGreatDoor.Rows.laid_internal_strconv_uint64pow10) ∈ L) : Tab10 (immOf W) := by
  obtain ⟨g0, t0, cs0, f0, p0, hg0, ht0, hv0, hd0⟩ := Lib.laidMet.reads h hm
  have g1 : Tryz.prog.globalNamed "internal/strconv.uint64pow10" = some 1 := by kernel_rfl
  have t1 : (Tryz.prog.globals[1]?).map (·.type) = some 228 := by kernel_rfl
  obtain rfl := Option.some.inj (g1.symm.trans hg0)
  obtain rfl := Option.some.inj (t1.symm.trans ht0)
  have hl : (YtcdlcfihjfhkgaaGreatDoor.Rows.laid_internal_strconv_uint64pow10 : DataW Unit) = .agg (Lib.pow10Tab.map fun z => .lit (.int .u64 z)) := by kernel_rfl
  rw [hl] at hd0
  have hc := open_table (k := .u64) (n := 20) Tryz.underlying228 Tryz.underlying50 (by kernel_rfl) (by kernel_rfl) (by kernel_rfl) hd0
  refine ⟨(immOf_var hg0 hv0).trans ?_⟩
  congr 1
  exact Array.ext' hc
theorem Tryz.maxLen_of {W : World} (h : W.ShapedOpen Tryz.prog) : MaxLen (immOf W) := by
  obtain ⟨m, hm⟩ : ∃ m, W.cell? ⟨0, 0, none⟩ = some (.int .i64 m) := Go.Proofs.cell_of_shapedOpen_int (zero := #[.int .i64 0]) (t := 3) h (of_decide_eq_true (by kernel_rfl)) (by kernel_rfl) rfl (by kernel_rfl) (by kernel_rfl) Tryz.underlying3
  unfold World.cell? at hm
  split at hm
  · rename_i c e f hb
    exact ⟨c, m, by unfold immOf; rw [show W.heap[0]? = some (.cells c e f) from hb], by simpa using hm⟩
  · cases hm
theorem Tryz.tab64_of {L : List (String × DataW Unit)} {W : World} (h : laidMet Tryz.prog L W) (hm : ("math/bits.deBruijn64tab", YtcdlcfihjfhkgaaGreatDoor.Rows.laid_math_bits_deBruijn64tab) ∈ L) : Tab (immOf W) := by
  obtain ⟨g0, t0, cs0, f0, p0, hg0, ht0, hv0, hd0⟩ := Lib.laidMet.reads h hm
  have g1 : Tryz.prog.globalNamed "math/bits.deBruijn64tab" = some 4 := by kernel_rfl
  have t1 : (Tryz.prog.globals[4]?).map (·.type) = some 243 := by kernel_rfl
  obtain rfl := Option.some.inj (g1.symm.trans hg0)
  obtain rfl := Option.some.inj (t1.symm.trans ht0)
  have hl : (YtcdlcfihjfhkgaaGreatDoor.Rows.laid_math_bits_deBruijn64tab : DataW Unit) = .agg ((Lib.deBruijn64tab.map fun n => ((n : Nat) : Int)).map fun z => .lit (.int .u8 z)) := by kernel_rfl
  rw [hl] at hd0
  have hc := open_table (k := .u8) (n := 64) Tryz.underlying243 Tryz.underlying5 (by kernel_rfl) (by kernel_rfl) (by kernel_rfl) hd0
  refine ⟨(immOf_var hg0 hv0).trans ?_⟩
  rw [tabV]
  congr 1
  rw [List.map_map] at hc
  exact Array.ext' hc
end Go.Proofs
