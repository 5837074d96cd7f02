/- The laws VecWays, VecOrder, VecTells, on the facts. -/
import Derived.Test.YtofplgefmjojjaaGreatDoorSnx
namespace Go.Proofs
open Go Go.Sv Num
variable {G : Imm}
abbrev rep (p : Rat × Rat) : (Bool × List Nat × List Nat) × (Bool × List Nat × List Nat) := ((decide (p.1.num < 0), dig p.1.num.natAbs, dig p.1.den), (decide (p.2.num < 0), dig p.2.num.natAbs, dig p.2.den))
theorem pv_rep (p : Rat × Rat) : pv (rep p) = p := by
 have h : ∀ q : Rat, qv (decide (q.num < 0), dig q.num.natAbs, dig q.den) = q := fun q => by
  show mkRat (sgn _ (val _)) (val _) = q
  rw [val_dig, val_dig, sgn_self, Rat.mkRat_self]
 show (qv _, qv _) = p
 rw [h, h]
theorem map_rep (l : List (Rat × Rat)) : (l.map rep).map pv = l := by
 rw [List.map_map]
 exact (List.map_congr_left fun p _ => pv_rep p).trans (List.map_id l)
theorem sl_rep {l : List (Rat × Rat)} {I : Imm} {v : Value} (h : (slS 6 pcan l).den I v) : (slS 6 pc (l.map rep)).den I v := by
 obtain ⟨a, cap, hv, h1, h2, h3⟩ := h
 refine ⟨a, cap, by rw [List.length_map]; exact hv, by rw [List.length_map]; exact h1, by rw [List.length_map]; exact h2, ?_⟩
 rcases h3 with h3 | ⟨b, o, ha, h4⟩
 ·exact .inl (by rw [h3]; rfl)
 ·refine .inr ⟨b, o, ha, fun i x hx => ?_⟩
  rw [List.getElem?_map, Option.map_eq_some_iff] at hx
  obtain ⟨p, hp, rfl⟩ := hx
  exact h4 i p hp
theorem ptOk_rep {p : Rat × Rat} {k : Nat} (h1 : Bq p.1 k) (h2 : Bq p.2 k) : PtOk k (rep p) := ⟨⟨lim_dig _, lim_dig _, h1.lens.1, h1.lens.2⟩, lim_dig _, lim_dig _, h2.lens.1, h2.lens.2⟩
theorem vNormL [Tab G] {ps : List ((Bool × List Nat × List Nat) × (Bool × List Nat × List Nat))} {k : Nat} (hk : 0 < k) (hl : ∀ p ∈ ps, PtOk k p) (hs : 2 * k + 11000 ≤ cap) (hxl : ps.length ≤ cap) : PSpec Tryz.prog G 135 [slS 6 id (ps.map pc)] (slS 6 pcan (ps.map pv)) :=
 (vNorm_spec hk hl hs hxl).args ⟨fun _ _ h => sl_pair (f := pc) ps h, trivial⟩
end Go.Proofs
