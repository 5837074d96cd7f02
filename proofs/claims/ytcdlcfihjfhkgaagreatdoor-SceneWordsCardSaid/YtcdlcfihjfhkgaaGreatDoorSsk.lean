/- Texts: Cut, CutSuffix, TrimPrefix, Join of the library, by the kit's contracts. -/
import Derived.Test.YtcdlcfihjfhkgaaGreatDoorSsc
import Derived.Test.YtcdlcfihjfhkgaaGreatDoorSml
namespace Go.Sv
open Go Go.RowKit
theorem dens_three {I : Imm} {s t u : SV} {vs : List Value} (h : dens I [s, t, u] vs) : ∃ x y z, vs = [x, y, z] ∧ s.den I x ∧ t.den I y ∧ u.den I z := by
  obtain ⟨x, r, rfl, hx, hr⟩ := dens_cons_inv h
  obtain ⟨y, z, rfl, hy, hz⟩ := dens_two hr
  exact ⟨x, y, z, rfl, hx, hy, hz⟩
theorem sl_map {α : Type} {f : α → List SV} {st : Nat} {l : List α} {I : Imm} {v : Value} (h : (slS st id (l.map f)).den I v) : (slS st f l).den I v := by
  obtain ⟨a, cap, hv, h1, h2, h3⟩ := h
  refine ⟨a, cap, by rw [hv, List.length_map], by rwa [List.length_map] at h1, by rwa [List.length_map] at h2, ?_⟩
  rcases h3 with h3 | ⟨b, o, ha, h4⟩
  · exact .inl (List.map_eq_nil_iff.1 h3)
  · exact .inr ⟨b, o, ha, fun i x hx => h4 i (f x) (by rw [List.getElem?_map, hx]; rfl)⟩
abbrev tC (s : List UInt8) : List SV := [strS s]
theorem flat_tC : ∀ l : List (List UInt8), (l.flatMap tC).length = l.length
  | [] => rfl
  | x :: l => by rw [List.flatMap_cons, List.length_append, flat_tC l]; show 1 + l.length = l.length + 1; omega
theorem cell_of {I G : Imm} {W : World} {b i : Nat} {c : Array Value} (h : Holds G I W) (hb : I b = some c) : W.cell? ⟨b, i, none⟩ = c[i]? := by
  obtain ⟨e, f, hw⟩ := h.mem _ _ hb
  simp [World.cell?, hw]
end Go.Sv
namespace Go.Proofs
open Go Go.Sv Num
variable {G : Imm}
class MaxLen (G : Imm) : Prop where
  h : ∃ (c : Array Value) (m : Int), G 0 = some c ∧ c[0]? = some (.int .i64 m)
theorem cut_spec [MaxLen G] {l m : List UInt8} (hl : l.length < 4294967281) : PSpec Tryz.prog G 52 [strS l, strS m] (tupS [strS (Lib.cut l m).1, strS (Lib.cut l m).2.1, boolS (Lib.cut l m).2.2]) :=
  pspec_below (Go.Proofs.enters_of Tryz.func52 rfl rfl) fun I W vs h1 h2 => by
    obtain ⟨x, y, rfl, hx, hy⟩ := dens_two h2
    rw [show x = .string ⟨l.toArray⟩ from hx, show y = .string ⟨m.toArray⟩ from hy]
    obtain ⟨c0, m0, hc0, hm0⟩ := MaxLen.h (G := G)
    exact (Tryz.strings_Cut ⟨l.toArray⟩ ⟨m.toArray⟩ m0 W (by rw [mk_size]; exact hl) ((cell_of h1 (h1.glob _ _ hc0)).trans hm0)).mono fun e W' ⟨he, n, hw⟩ => ⟨_, he, fun J _ => ⟨_, rfl, dens_cons rfl (dens_cons rfl (dens_cons rfl dens_nil))⟩, by rw [hw]; exact ⟨rfl, rfl, rfl, Nat.le_refl _, fun _ _ => rfl⟩⟩
theorem cutSuffix_spec {l m : List UInt8} (hl : l.length ≤ 9223372036854775807) : PSpec Tryz.prog G 47 [strS l, strS m] (tupS [strS (Lib.trimSuffix l m), boolS (Lib.hasSuffix l m)]) :=
  pspec_below (Go.Proofs.enters_of Tryz.func47 rfl rfl) fun I W vs h1 h2 => by
    obtain ⟨x, y, rfl, hx, hy⟩ := dens_two h2
    rw [show x = .string ⟨l.toArray⟩ from hx, show y = .string ⟨m.toArray⟩ from hy]
    exact (Tryz.strings_CutSuffix ⟨l.toArray⟩ ⟨m.toArray⟩ W (by rw [mk_size]; exact hl)).mono fun e W' ⟨he, hw⟩ => ⟨_, he, fun J _ => ⟨_, rfl, dens_cons rfl (dens_cons rfl dens_nil)⟩, by rw [hw]; exact Go.RowKit.Below.refl _ _⟩
theorem trimPrefix_spec {l m : List UInt8} : PSpec Tryz.prog G 55 [strS l, strS m] (strS (Lib.trimPrefix l m)) :=
  pspec_below (Go.Proofs.enters_of Tryz.func55 rfl rfl) fun I W vs h1 h2 => by
    obtain ⟨x, y, rfl, hx, hy⟩ := dens_two h2
    rw [show x = .string ⟨l.toArray⟩ from hx, show y = .string ⟨m.toArray⟩ from hy]
    exact (Tryz.strings_TrimPrefix ⟨l.toArray⟩ ⟨m.toArray⟩ W).mono fun e W' ⟨he, hw⟩ => ⟨_, he, fun J _ => rfl, by rw [hw]; exact Go.RowKit.Below.refl _ _⟩
theorem join_spec {ws : List (List UInt8)} {m : List UInt8} (hl : (Lib.join ws m).length ≤ 140737488355328) : PSpec Tryz.prog G 68 [slS 1 tC ws, strS m] (strS (Lib.join ws m)) :=
  pspec_below (Go.Proofs.enters_of Tryz.func68 rfl rfl) fun I W vs h1 h2 => by
    obtain ⟨x, y, rfl, ⟨a, cap, rfl, hc, hb, hs⟩, hy⟩ := dens_two h2
    rw [show y = .string ⟨m.toArray⟩ from hy]
    rcases hs with rfl | ⟨b, o, rfl, hs⟩
    · exact (Tryz.strings_Join_none a cap ⟨m.toArray⟩ W).mono fun e W' ⟨he, hw⟩ => ⟨_, he, fun J _ => rfl, by rw [hw]; exact Go.RowKit.Below.refl _ _⟩
    · by_cases hn : ws = []
      · subst hn
        exact (Tryz.strings_Join_none _ cap ⟨m.toArray⟩ W).mono fun e W' ⟨he, hw⟩ => ⟨_, he, fun J _ => rfl, by rw [hw]; exact Go.RowKit.Below.refl _ _⟩
      · have hcell : ∀ (j : Nat) x, (ws.map fun w => ByteArray.mk w.toArray)[j]? = some x → W.cell? ⟨b, o + j, none⟩ = some (.string x) := fun j x hj => by
          rw [List.getElem?_map, Option.map_eq_some_iff] at hj
          obtain ⟨w, hw, rfl⟩ := hj
          obtain ⟨c, hc1, hc2⟩ := hs j w hw
          obtain ⟨v, hv1, hv2, _⟩ := hc2 0 _ rfl
          rw [cell_of h1 hc1, show o + j = o + j * 1 + 0 by omega, hv1, show v = .string ⟨w.toArray⟩ from hv2]
        have hbk : b < W.heap.size := by
          obtain ⟨w, hw⟩ := List.exists_mem_of_ne_nil ws hn
          obtain ⟨j, hj⟩ := List.getElem?_of_mem hw
          obtain ⟨c, hc1, _⟩ := hs j w hj
          obtain ⟨e, f, hw⟩ := h1.mem _ _ hc1
          exact lt_of_some hw
        have hm : (ws.map fun w => ByteArray.mk w.toArray).map (·.data.toList) = ws := by
          rw [List.map_map]
          exact (List.map_congr_left (g := id) fun w _ => rfl).trans (List.map_id ws)
        have h3 := Tryz.strings_Join b o cap (ws.map fun w => ByteArray.mk w.toArray) ⟨m.toArray⟩ W hcell hbk (by rw [List.length_map]; exact hb) (by simpa using hc) (by rw [hm]; exact hl)
        rw [List.length_map, hm] at h3
        exact h3.mono fun e W' ⟨he, hw⟩ => ⟨_, he, fun J _ => rfl, hw⟩
end Go.Proofs
