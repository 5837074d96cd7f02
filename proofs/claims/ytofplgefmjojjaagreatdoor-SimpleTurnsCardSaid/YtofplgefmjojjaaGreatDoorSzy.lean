/- A list as an argument, with the bytes that it may have. -/
import Derived.Test.YtofplgefmjojjaaGreatDoorSnz
namespace Go.Sv
open Go Go.RowKit Go.ChangeShapes Go.WideShapes Go.Deep
section
variable {H : Type} {enc : TypeId × Value → H} {P : Program} {W : World} {base : Nat} {spare : Nat → Bool} {held : Bool}
theorem open_listB {α : Type} {t e st : Nat} {f : α → List SV} {Good : α → Prop} {fuel : Nat} {cs : List Value} {x : DataW H × List MemPlace}
  (ht : P.underlying t = some (.slice e)) (hc : P.cellsOf e = st) (h0 : 0 < st) (hb : 0 < P.bytesOf e) (hst : ∀ y, (f y).length = st)
  (hel : ∀ (n : Nat) (cs : List Value) (x : DataW H × List MemPlace), DataW.trod enc P W base spare held n e cs = some x → fitsW P e x.1 → ∃ y, Good y ∧ dens (immOf W) (f y) cs ∧ allOne cs)
  (h : DataW.trod enc P W base spare held fuel t cs = some x) (hw : fitsW P t x.1) : ∃ v l, cs = [v] ∧ ((∀ y ∈ l, Good y) ∧ l.length * P.bytesOf e ≤ reachBytes) ∧ (slS st f l).den (immOf W) v := by
 rcases open_slice ht h with ⟨rfl, rfl⟩ | ⟨a, len, cap, m, n, D, Pl, rfl, _, hl, _, hm, rfl, hx⟩
 ·exact ⟨_, [], rfl, ⟨(fun _ h => by cases h), by simp⟩, none, 0, rfl, Nat.le_refl _, Nat.zero_le _, .inl rfl⟩
 ·have hlm : len ≤ m := by rw [hm]; split <;> omega
  simp only [fitsW, DataW.weights, ht, List.all_cons, Bool.and_eq_true, List.all_append, decide_eq_true_eq, List.length_map, List.length_range] at hw
  obtain ⟨hw0, hw1, _⟩ := hw
  have hbig : len ≤ big := by
   have : len * 1 ≤ (len + (m - len)) * P.bytesOf e := Nat.mul_le_mul (by omega) hb
   unfold reachBytes at hw0
   unfold big
   omega
  rcases Nat.eq_zero_or_pos len with rfl | hpos
  ·exact ⟨_, [], rfl, ⟨(fun _ h => by cases h), by simp⟩, some a, cap, rfl, Nat.zero_le _, Nat.zero_le _, .inl rfl⟩
  ·obtain ⟨b, o, sp⟩ := a
   have hsp : sp = none := by
    obtain ⟨cs', h1, _⟩ := hx 0 (by omega)
    obtain ⟨_, hlen, hcell⟩ := World.cells?_some h1
    have g0 := hcell 0 (by omega)
    rw [show cs'[0]? = some (cs'[0]'(by omega)) by simp] at g0
    simpa [Addr.add] using World.cell?_spot g0
   subst hsp
   obtain ⟨l, hll, hlp⟩ := list_of (p := fun i (y : α) => Good y ∧ cellsAt (immOf W) b (o + i * st) (f y)) len fun i hi => by
    obtain ⟨cs', h1, h2⟩ := hx i (by omega)
    rw [hc, add_plain] at h1
    obtain ⟨y, hg, hd, ho⟩ := hel n cs' (D i, Pl i) h2 (fits_all hw1 _ (List.mem_map.2 ⟨i, by simpa using hi, rfl⟩))
    exact ⟨y, hg, cellsAt_of h1 h0 (hst y) hd ho⟩
   refine ⟨_, l, rfl, ⟨fun y hy => ?_, by rw [hll]; exact Nat.le_trans (Nat.mul_le_mul_right _ (by omega)) hw0⟩, some ⟨b, o, none⟩, cap, by rw [hll], by omega, by omega, .inr ⟨b, o, rfl, fun i y hy => (hlp i y hy).2⟩⟩
   obtain ⟨i, hi⟩ := List.getElem?_of_mem hy
   exact (hlp i y hi).1
end
section
variable {H : Type} {enc : TypeId × Value → H} {P : Program}
theorem arg_rowB {α : Type} {f : α → List SV} {Good : List α → Prop} {st : Nat} {W : World} {b0 : Nat} {t e : TypeId} {v : Value} {d : DataW H} {ps : List MemPlace} {base : Nat} {spare : Nat → Bool} {held : Bool} (ht : P.underlying t = some (.slice e)) (hval : Value.okWide P W .any b0 t v)
  (hd : DataW.Trod enc P W base spare held t v d ps) (hw : fitsW P t d) (hel : ∀ n cs x, DataW.trod enc P W base spare held n t cs = some x → fitsW P t x.1 → ∃ v l, cs = [v] ∧ Good l ∧ (slS st f l).den (immOf W) v) : ∃ l, Good l ∧ (slS st f l).den (immOf W) v := by
 obtain ⟨a, len, cap, rfl⟩ := okWide_slice ht hval
 obtain ⟨n, hn⟩ := hd
 obtain ⟨v, l, hc, hg, hv⟩ := hel n _ (d, ps) hn hw
 simp only [Value.cells, List.cons.injEq, and_true] at hc
 subst hc
 exact ⟨l, hg, hv⟩
section
variable {W : World} {Q : List SV → Prop} {t : TypeId} {ts : List TypeId} {ss : List SV}
theorem openAll_rowB {α : Type} {f : α → List SV} {Good : List α → Prop} {st : Nat} {e : TypeId} (ht : P.underlying t = some (.slice e)) (hel : ∀ n cs (x : DataW H × List MemPlace), DataW.trod enc P W 0 (fun _ => true) true n t cs = some x → fitsW P t x.1 → ∃ v l, cs = [v] ∧ Good l ∧ (slS st f l).den (immOf W) v)
  (hn : ∀ l, Good l → openAll enc P W Q ts (slS st f l :: ss)) : openAll enc P W Q (t :: ts) ss := fun _ _ _ _ hv hd hw => by
 obtain ⟨l, hg, h⟩ := arg_rowB ht hv hd hw hel
 exact ⟨_, h, hn l hg⟩
end
end
end Go.Sv
namespace Go.Proofs
open Go Go.Sv Num Go.RowKit Go.ChangeShapes Go.WideShapes
section
variable {H : Type} {enc : TypeId × Value → H} {W : World} {base : Nat} {spare : Nat → Bool} {held : Bool}
theorem Tryz.open_ptsB {n : Nat} {cs : List Value} {x : DataW H × List MemPlace} (h : DataW.trod enc Tryz.prog W base spare held n 22 cs = some x) (hw : fitsW Tryz.prog 22 x.1) : ∃ v l, cs = [v] ∧ ((∀ p ∈ l, (Lim p.1.2.1 ∧ Lim p.1.2.2) ∧ Lim p.2.2.1 ∧ Lim p.2.2.2) ∧ l.length * 112 ≤ 140737488351232) ∧ (slS 6 pc l).den (immOf W) v := by
 obtain ⟨v, l, e1, ⟨e2, e3⟩, e4⟩ := open_listB (st := 6) (f := pc) (Good := fun p => (Lim p.1.2.1 ∧ Lim p.1.2.2) ∧ Lim p.2.2.1 ∧ Lim p.2.2.2) Tryz.underlying22 (by kernel_rfl) (by omega) (of_decide_eq_true (by kernel_rfl)) (fun _ => rfl) (fun _ _ _ h w => Tryz.open_pt h w) h hw
 exact ⟨v, l, e1, ⟨e2, by rw [show Tryz.prog.bytesOf 30 = 112 by kernel_rfl] at e3; exact e3⟩, e4⟩
end
end Go.Proofs
