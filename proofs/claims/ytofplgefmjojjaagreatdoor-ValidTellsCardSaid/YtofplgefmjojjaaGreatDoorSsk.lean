/- Texts: Cut, CutSuffix, TrimPrefix, Join of the library, by the kit's contracts. -/
import Derived.Test.YtofplgefmjojjaaGreatDoorSsc
import Derived.Test.YtofplgefmjojjaaGreatDoorSml
namespace Go.Sv
open Go Go.RowKit
theorem dens_three {I : Imm} {s t u : SV} {vs : List Value} (h : dens I [s, t, u] vs) : ∃ x y z, vs = [x, y, z] ∧ s.den I x ∧ t.den I y ∧ u.den I z := by
 obtain ⟨x, r, rfl, hx, hr⟩ := dens_cons_inv h
 obtain ⟨y, z, rfl, hy, hz⟩ := dens_two hr
 exact ⟨x, y, z, rfl, hx, hy, hz⟩
theorem sl_map {α : Type} {f : α → List SV} {st : Nat} {l : List α} {I : Imm} {v : Value} (h : (slS st id (l.map f)).den I v) : (slS st f l).den I v := by
 obtain ⟨a, cap, hv, h1, h2, h3⟩ := h
 refine ⟨a, cap, by rw [hv, List.length_map], by rwa [List.length_map] at h1, by rwa [List.length_map] at h2, ?_⟩
 rcases h3 with h3 | ⟨b, o, ha, h4⟩
 ·exact .inl (List.map_eq_nil_iff.1 h3)
 ·exact .inr ⟨b, o, ha, fun i x hx => h4 i (f x) (by rw [List.getElem?_map, hx]; rfl)⟩
abbrev tC (s : List UInt8) : List SV := [strS s]
theorem flat_tC : ∀ l : List (List UInt8), (l.flatMap tC).length = l.length
 | [] => rfl
 | x :: l => by rw [List.flatMap_cons, List.length_append, flat_tC l]; show 1 + l.length = l.length + 1; omega
theorem cell_of {I G : Imm} {W : World} {b i : Nat} {c : Array Value} (h : Holds G I W) (hb : I b = some c) : W.cell? ⟨b, i, none⟩ = c[i]? := by
 obtain ⟨e, f, hw⟩ := h.mem _ _ hb
 simp [World.cell?, hw]
end Go.Sv
namespace Go.Proofs
open Go Go.Sv Num
variable {G : Imm}
class MaxLen (G : Imm) : Prop where
 h : ∃ (c : Array Value) (m : Int), G 0 = some c ∧ c[0]? = some (.int .i64 m)
theorem cut_spec [MaxLen G] {l m : List UInt8} (hl : l.length < 4294967281) : PSpec Tryz.prog G 199 [strS l, strS m] (tupS [strS (Lib.cut l m).1, strS (Lib.cut l m).2.1, boolS (Lib.cut l m).2.2]) :=
 pspec_below (Go.Proofs.enters_of Tryz.func199 rfl rfl) fun I W vs h1 h2 => by
  obtain ⟨x, y, rfl, hx, hy⟩ := dens_two h2
  rw [show x = .string ⟨l.toArray⟩ from hx, show y = .string ⟨m.toArray⟩ from hy]
  obtain ⟨c0, m0, hc0, hm0⟩ := MaxLen.h (G := G)
  exact (Tryz.strings_Cut ⟨l.toArray⟩ ⟨m.toArray⟩ m0 W (by rw [mk_size]; exact hl) ((cell_of h1 (h1.glob _ _ hc0)).trans hm0)).mono fun e W' ⟨he, n, hw⟩ => ⟨_, he, fun J _ => ⟨_, rfl, dens_cons rfl (dens_cons rfl (dens_cons rfl dens_nil))⟩, by rw [hw]; exact ⟨rfl, rfl, rfl, Nat.le_refl _, fun _ _ => rfl⟩⟩
theorem cutSuffix_spec {l m : List UInt8} (hl : l.length ≤ 9223372036854775807) : PSpec Tryz.prog G 155 [strS l, strS m] (tupS [strS (Lib.trimSuffix l m), boolS (Lib.hasSuffix l m)]) :=
 pspec_below (Go.Proofs.enters_of Tryz.func155 rfl rfl) fun I W vs h1 h2 => by
  obtain ⟨x, y, rfl, hx, hy⟩ := dens_two h2
  rw [show x = .string ⟨l.toArray⟩ from hx, show y = .string ⟨m.toArray⟩ from hy]
  exact (Tryz.strings_CutSuffix ⟨l.toArray⟩ ⟨m.toArray⟩ W (by rw [mk_size]; exact hl)).mono fun e W' ⟨he, hw⟩ => ⟨_, he, fun J _ => ⟨_, rfl, dens_cons rfl (dens_cons rfl dens_nil)⟩, by rw [hw]; exact Go.RowKit.Below.refl _ _⟩
theorem trimPrefix_spec {l m : List UInt8} : PSpec Tryz.prog G 225 [strS l, strS m] (strS (Lib.trimPrefix l m)) :=
 pspec_below (Go.Proofs.enters_of Tryz.func225 rfl rfl) fun I W vs h1 h2 => by
  obtain ⟨x, y, rfl, hx, hy⟩ := dens_two h2
  rw [show x = .string ⟨l.toArray⟩ from hx, show y = .string ⟨m.toArray⟩ from hy]
  exact (Tryz.strings_TrimPrefix ⟨l.toArray⟩ ⟨m.toArray⟩ W).mono fun e W' ⟨he, hw⟩ => ⟨_, he, fun J _ => rfl, by rw [hw]; exact Go.RowKit.Below.refl _ _⟩
end Go.Proofs
