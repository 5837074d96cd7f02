/- Texts: what the program calls of the library: CutPrefix, TrimLeft, Repeat, FormatUint. By the kit's contracts. -/
import Derived.Test.YtofplgefmjojjaaGreatDoorSsb
import Derived.Test.YtofplgefmjojjaaGreatDoorSh
import Derived.Test.YtofplgefmjojjaaGreatDoorSnp
import Derived.Lib.LaidTab
import Derived.Lib.ItoaMem
namespace Go.Sv
open Go Go.RowKit
theorem dens_one {I : Imm} {s : SV} {vs : List Value} (h : dens I [s] vs) : ∃ x, vs = [x] ∧ s.den I x := by
 obtain ⟨x, r, rfl, hx, hr⟩ := dens_cons_inv h
 rw [dens_nil_inv hr]; exact ⟨x, rfl, hx⟩
theorem dens_two {I : Imm} {s t : SV} {vs : List Value} (h : dens I [s, t] vs) : ∃ x y, vs = [x, y] ∧ s.den I x ∧ t.den I y := by
 obtain ⟨x, r, rfl, hx, hr⟩ := dens_cons_inv h
 obtain ⟨y, rfl, hy⟩ := dens_one hr
 exact ⟨x, y, rfl, hx, hy⟩
end Go.Sv
namespace Go.Proofs
open Go Go.Sv Num
variable {G : Imm}
theorem cutPrefix_spec {l m : List UInt8} : PSpec Tryz.prog G 240 [strS l, strS m] (tupS [strS (Lib.trimPrefix l m), boolS (Lib.hasPrefix l m)]) :=
 pspec_below (Go.Proofs.enters_of Tryz.func240 rfl rfl) fun I W vs h1 h2 => by
  obtain ⟨x, y, rfl, hx, hy⟩ := dens_two h2
  rw [show x = .string ⟨l.toArray⟩ from hx, show y = .string ⟨m.toArray⟩ from hy]
  exact (Tryz.strings_CutPrefix ⟨l.toArray⟩ ⟨m.toArray⟩ W).mono fun e W' ⟨he, hw⟩ => ⟨_, he, fun J _ => ⟨_, rfl, dens_cons rfl (dens_cons rfl dens_nil)⟩, by rw [hw]; exact Go.RowKit.Below.refl _ _⟩
end Go.Proofs
