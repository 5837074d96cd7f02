/- A scene as an argument. -/
import Derived.Test.YtofplgefmjojjaaGreatDoorSci
import Derived.Test.YtofplgefmjojjaaGreatDoorSnz
namespace Go.Sv
open Go Go.RowKit Go.ChangeShapes Go.WideShapes Go.Deep
section
variable {H : Type} {enc : TypeId × Value → H} {P : Program} {W : World} {base : Nat} {spare : Nat → Bool} {held : Bool}
theorem trod_struct3 {t : TypeId} {f0 f1 f2 : Field} {fuel : Nat} {cs : List Value} {x : DataW H × List MemPlace} (ht : P.underlying t = some (.struct #[f0, f1, f2])) (h : DataW.trod enc P W base spare held fuel t cs = some x) :
    ∃ y0 y1 y2 n, x = (.agg [y0.1, y1.1, y2.1], y0.2 ++ (y1.2 ++ y2.2)) ∧ cs.length = P.cellsOf t ∧ DataW.trod enc P W base spare held n f0.type ((cs.drop f0.offset).take (P.cellsOf f0.type)) = some y0 ∧
      DataW.trod enc P W base spare held n f1.type ((cs.drop f1.offset).take (P.cellsOf f1.type)) = some y1 ∧ DataW.trod enc P W base spare held n f2.type ((cs.drop f2.offset).take (P.cellsOf f2.type)) = some y2 := by
  obtain ⟨xs, n, _, rfl, hl, hlen, hf⟩ := DataW.trod_struct ht h
  match xs, hlen with
  | [y0, y1, y2], _ => exact ⟨y0, y1, y2, n, by simp, hl, by simpa using hf 0 f0 rfl, by simpa using hf 1 f1 rfl, by simpa using hf 2 f2 rfl⟩
theorem open_three {t : TypeId} {f0 f1 f2 : Field} {fuel : Nat} {cs : List Value} {x : DataW H × List MemPlace} (ht : P.underlying t = some (.struct #[f0, f1, f2])) (h0 : f0.offset = 0) (h1 : f1.offset = P.cellsOf f0.type) (h2 : f2.offset = P.cellsOf f0.type + P.cellsOf f1.type) (hc : P.cellsOf t = P.cellsOf f0.type + P.cellsOf f1.type + P.cellsOf f2.type)
  (h : DataW.trod enc P W base spare held fuel t cs = some x) (hw : fitsW P t x.1) : ∃ c0 c1 c2 y0 y1 y2 n, cs = c0 ++ (c1 ++ c2) ∧ DataW.trod enc P W base spare held n f0.type c0 = some y0 ∧ fitsW P f0.type y0.1 ∧ DataW.trod enc P W base spare held n f1.type c1 = some y1 ∧ fitsW P f1.type y1.1 ∧ DataW.trod enc P W base spare held n f2.type c2 = some y2 ∧ fitsW P f2.type y2.1 := by
 obtain ⟨y0, y1, y2, n, rfl, hl, k0, k1, k2⟩ := trod_struct3 ht h
 simp only [fitsW, DataW.weights, ht, DataW.weightsEach, List.map_cons, List.map_nil, List.append_nil, List.all_append, Bool.and_eq_true] at hw
 refine ⟨_, _, _, y0, y1, y2, n, ?_, k0, hw.1, k1, hw.2.1, k2, hw.2.2⟩
 rw [h0, h1, h2, List.drop_zero, List.take_of_length_le (l := cs.drop (P.cellsOf f0.type + P.cellsOf f1.type)) (by rw [List.length_drop]; omega), ← List.drop_drop, List.take_append_drop, List.take_append_drop]
end
end Go.Sv
namespace Go.Proofs
open Go Go.Sv Num Go.RowKit Go.ChangeShapes Go.WideShapes
section
variable {H : Type} {enc : TypeId × Value → H} {W : World} {base : Nat} {spare : Nat → Bool} {held : Bool}
theorem Tryz.open_rowEl {n : Nat} {cs : List Value} {x : DataW H × List MemPlace} (h : DataW.trod enc Tryz.prog W base spare held n 22 cs = some x) (hw : fitsW Tryz.prog 22 x.1) : ∃ l : List RP, (∀ p ∈ l, LimP p) ∧ dens (immOf W) (rowC l) cs ∧ allOne cs := by
 obtain ⟨v, l, rfl, hl, hv⟩ := Tryz.open_pts h hw
 exact ⟨l, hl, dens_cons hv dens_nil, fun x hx => by rw [List.mem_singleton.1 hx]; exact one_slS _ _ hv⟩
theorem Tryz.open_prows {n : Nat} {cs : List Value} {x : DataW H × List MemPlace} (h : DataW.trod enc Tryz.prog W base spare held n 51 cs = some x) (hw : fitsW Tryz.prog 51 x.1) : ∃ v l, cs = [v] ∧ (∀ r ∈ l, ∀ p ∈ r, LimP p) ∧ (slS 1 rowC l).den (immOf W) v :=
 open_list Tryz.underlying51 (by kernel_rfl) (by omega) (of_decide_eq_true (by kernel_rfl)) (fun _ => rfl) (fun _ _ _ h w => Tryz.open_rowEl h w) h hw
theorem Tryz.open_que {n : Nat} {cs : List Value} {x : DataW H × List MemPlace} (h : DataW.trod enc Tryz.prog W base spare held n 69 cs = some x) (hw : fitsW Tryz.prog 69 x.1) : ∃ q : RP × RP, (LimP q.1 ∧ LimP q.2) ∧ dens (immOf W) (queC q) cs ∧ allOne cs := by
 obtain ⟨c0, c1, y0, y1, n, rfl, h0, w0, h1, w1⟩ := open_two Tryz.underlying69 rfl (by kernel_rfl) (by kernel_rfl) h hw
 obtain ⟨y, hy, hd, ho⟩ := Tryz.open_pt h0 w0
 obtain ⟨z, hz, hd', ho'⟩ := Tryz.open_pt h1 w1
 refine ⟨(y, z), ⟨hy, hz⟩, hd.append hd', fun x hx => ?_⟩
 rcases List.mem_append.1 hx with hx | hx
 ·exact ho x hx
 ·exact ho' x hx
theorem Tryz.open_ques {n : Nat} {cs : List Value} {x : DataW H × List MemPlace} (h : DataW.trod enc Tryz.prog W base spare held n 52 cs = some x) (hw : fitsW Tryz.prog 52 x.1) : ∃ v l, cs = [v] ∧ (∀ q ∈ l, LimP q.1 ∧ LimP q.2) ∧ (slS 12 queC l).den (immOf W) v :=
 open_list Tryz.underlying52 (by kernel_rfl) (by omega) (of_decide_eq_true (by kernel_rfl)) (fun _ => rfl) (fun _ _ _ h w => Tryz.open_que h w) h hw
theorem Tryz.open_scene {n : Nat} {cs : List Value} {x : DataW H × List MemPlace} (h : DataW.trod enc Tryz.prog W base spare held n 54 cs = some x) (hw : fitsW Tryz.prog 54 x.1) : ∃ s : Sc, ScLim s ∧ dens (immOf W) (scC s) cs ∧ allOne cs := by
 obtain ⟨c0, c1, c2, y0, y1, y2, n, rfl, h0, w0, h1, w1, h2, w2⟩ := open_three Tryz.underlying54 rfl (by kernel_rfl) (by kernel_rfl) (by kernel_rfl) h hw
 obtain ⟨v0, r, rfl, hr, d0⟩ := Tryz.open_pts h0 w0
 obtain ⟨v1, o, rfl, ho, d1⟩ := Tryz.open_prows h1 w1
 obtain ⟨v2, q, rfl, hq, d2⟩ := Tryz.open_ques h2 w2
 refine ⟨(r, o, q), ⟨hr, ho, hq⟩, dens_cons d0 (dens_cons d1 (dens_cons d2 dens_nil)), fun x hx => ?_⟩
 rcases List.mem_cons.1 hx with rfl | hx
 ·exact one_slS _ _ d0
 ·rcases List.mem_cons.1 hx with rfl | hx
  ·exact one_slS _ _ d1
  ·rw [List.mem_singleton.1 hx]; exact one_slS _ _ d2
end
end Go.Proofs
