/- straitlaw11: what the document says of lines; the law LineBack, on the facts. -/
import Derived.Test.YtcdlcfihjfhkgaaGreatDoorSsn
namespace Go.Proofs
open Go Go.Sv Num
variable {G : Imm}
theorem agg_lit {b : Bool} {m : List Nat} {d : Nat} (I : Imm) (x : Value) (h : (aggS [boolS b, natS m, slS 1 id [[intS .u32 (d : Nat)]]]).den I x) : (aggS [boolS b, natS m, natS [d]]).den I x := by
  obtain ⟨xs, hv, hd, h1⟩ := h
  refine ⟨xs, hv, ?_, h1⟩
  obtain ⟨x, y, z, rfl, hx, hy, hz⟩ := dens_three hd
  exact dens_cons hx (dens_cons hy (dens_cons (natLit (l := [d]) I z hz) dens_nil))
instance bq72 : Bq (mkRat (-7) 2) 1 := ⟨by decide +kernel, by decide +kernel⟩
end Go.Proofs
