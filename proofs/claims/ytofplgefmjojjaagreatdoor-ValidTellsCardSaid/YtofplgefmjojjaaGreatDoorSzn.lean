/- What the arguments of the laws are: naturals and integers, opened out of a reading. -/
import Derived.Test.YtofplgefmjojjaaGreatDoorSnp
import Derived.Test.YtofplgefmjojjaaGreatDoorSv2
import Derived.Test.YtofplgefmjojjaaGreatDoorRows
import Derived.Lay
namespace Go.Proofs
open Go Go.Sv Num Go.RowKit Go.ChangeShapes Go.WideShapes
section
variable {H : Type} {enc : TypeId × Value → H} {W : World} {base : Nat} {spare : Nat → Bool} {held : Bool}
theorem Tryz.open_nat {n : Nat} {cs : List Value} {x : DataW H × List MemPlace} (h : DataW.trod enc Tryz.prog W base spare held n 24 cs = some x) (hw : fitsW Tryz.prog 24 x.1) : ∃ v l, cs = [v] ∧ (∀ y ∈ l, y < 4294967296) ∧ (natS l).den (immOf W) v := by
 refine open_list (f := u32S) (Good := (· < 4294967296)) Tryz.underlying24 (by kernel_rfl) (by omega) (of_decide_eq_true (by kernel_rfl)) (fun _ => rfl) (fun n cs x h _ => ?_) h hw
 obtain ⟨z, rfl, _, hz⟩ := DataW.trod_int (k := .u32) Tryz.underlying93 h
 simp [Lit.wf, IntKind.min, IntKind.max, IntKind.signed, IntKind.bits] at hz
 refine ⟨z.toNat, by omega, dens_cons ?_ dens_nil, fun x hx => ?_⟩
 ·show Value.int _ z = Value.int _ _
  rw [Int.toNat_of_nonneg (by omega)]
 ·rw [List.mem_singleton.1 hx]
  rfl
theorem Tryz.open_int {n : Nat} {cs : List Value} {x : DataW H × List MemPlace} (h : DataW.trod enc Tryz.prog W base spare held n 26 cs = some x) (hw : fitsW Tryz.prog 26 x.1) : ∃ y : Bool × List Nat, Lim y.2 ∧ dens (immOf W) [boolS y.1, natS y.2] cs ∧ allOne cs := by
 obtain ⟨c0, c1, y0, y1, n, rfl, h0, _, h1, w1⟩ := open_two Tryz.underlying26 rfl (by kernel_rfl) (by kernel_rfl) h hw
 obtain ⟨b, rfl, _⟩ := DataW.trod_bool (show Tryz.prog.underlying 4 = some .bool from Tryz.isBool4) h0
 obtain ⟨v, l, rfl, hl, hv⟩ := Tryz.open_nat h1 w1
 refine ⟨(b, l), hl, dens_cons rfl (dens_cons hv dens_nil), fun x hx => ?_⟩
 simp only [List.singleton_append, List.mem_cons, List.not_mem_nil, or_false] at hx
 rcases hx with rfl | rfl
 ·rfl
 ·exact one_slS _ _ hv
end
end Go.Proofs
