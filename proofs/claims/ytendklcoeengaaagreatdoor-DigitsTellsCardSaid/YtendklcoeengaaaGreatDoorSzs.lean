/- A text as an argument, and the table of the powers of ten as laid. -/
import Derived.Test.YtendklcoeengaaaGreatDoorSsc
import Derived.Test.YtendklcoeengaaaGreatDoorSv2
import Derived.Test.YtendklcoeengaaaGreatDoorRows
import Derived.ChangeMaps5
import Derived.Lib.LaidU8
import Derived.Lay
namespace Go.Sv
open Go Go.RowKit Go.ChangeShapes Go.WideShapes
section
variable {H : Type} {enc : TypeId × Value → H} {P : Program} {W : World} {Q : List SV → Prop} {t : TypeId} {ts : List TypeId} {ss : List SV}
theorem openAll_str (ht : P.underlying t = some .string) (hn : ∀ l : List UInt8, l.length ≤ maxLen → openAll enc P W Q ts (strS l :: ss)) : openAll enc P W Q (t :: ts) ss := fun _ _ _ _ hv hd _ => by
  obtain ⟨s, rfl, _, _, hs⟩ := ChangeMaps.open_string ht hv hd
  exact ⟨_, rfl, hn s.data.toList (by rw [Array.length_toList]; exact hs)⟩
end
end Go.Sv
namespace Go.Proofs
open Go Go.Sv Num Go.RowKit Go.ChangeShapes Go.WideShapes
theorem Tryz.tab10_of {L : List (String × DataW Unit)} {W : World} (h : laidMet Tryz.prog L W) (hm : ("internal/strconv.uint64pow10", YtendklcoeengaaaGreatDoor.Rows.laid_internal_strconv_uint64pow10) ∈ L) : Tab10 (immOf W) := by
  obtain ⟨g0, t0, cs0, f0, p0, hg0, ht0, hv0, hd0⟩ := Lib.laidMet.reads h hm
  have g1 : Tryz.prog.globalNamed "internal/strconv.uint64pow10" = some 0 := by kernel_rfl
  have t1 : (Tryz.prog.globals[0]?).map (·.type) = some 231 := by kernel_rfl
  obtain rfl := Option.some.inj (g1.symm.trans hg0)
  obtain rfl := Option.some.inj (t1.symm.trans ht0)
  have hl : (YtendklcoeengaaaGreatDoor.Rows.laid_internal_strconv_uint64pow10 : DataW Unit) = .agg (Lib.pow10Tab.map fun z => .lit (.int .u64 z)) := by kernel_rfl
  rw [hl] at hd0
  have hc := open_table (k := .u64) (n := 20) Tryz.underlying231 Tryz.underlying101 (by kernel_rfl) (by kernel_rfl) (by kernel_rfl) hd0
  refine ⟨(immOf_var hg0 hv0).trans ?_⟩
  congr 1
  exact Array.ext' hc
end Go.Proofs
