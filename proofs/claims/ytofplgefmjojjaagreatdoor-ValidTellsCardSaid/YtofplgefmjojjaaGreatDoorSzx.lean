/- A text and a list of integers as arguments; the length that the library's search bears (seats with one laid table). -/
import Derived.Test.YtofplgefmjojjaaGreatDoorSsk
import Derived.Test.YtofplgefmjojjaaGreatDoorSzn
import Derived.Test.YtofplgefmjojjaaGreatDoorSv2
import Derived.ChangeMaps5
import Derived.Lay
import Derived.Shelf.Vars
namespace Go.Sv
open Go Go.RowKit Go.ChangeShapes Go.WideShapes
section
variable {H : Type} {enc : TypeId × Value → H} {P : Program} {W : World} {Q : List SV → Prop} {t : TypeId} {ts : List TypeId} {ss : List SV}
theorem openAll_text (ht : P.underlying t = some .string) (hn : ∀ l : List UInt8, l.length ≤ maxLen → openAll enc P W Q ts (strS l :: ss)) : openAll enc P W Q (t :: ts) ss := fun _ _ _ _ hv hd _ => by
 obtain ⟨s, rfl, _, _, hs⟩ := ChangeMaps.open_string ht hv hd
 exact ⟨_, rfl, hn s.data.toList (by rw [Array.length_toList]; exact hs)⟩
end
end Go.Sv
namespace Go.Proofs
open Go Go.Sv Num Go.RowKit Go.ChangeShapes Go.WideShapes
theorem Tryz.maxLen_of {W : World} (h : W.ShapedOpen Tryz.prog) : MaxLen (immOf W) := by
 obtain ⟨m, hm⟩ : ∃ m, W.cell? ⟨0, 0, none⟩ = some (.int .i64 m) := Go.Proofs.cell_of_shapedOpen_int (zero := #[.int .i64 0]) (t := 3) h (of_decide_eq_true (by kernel_rfl)) (by kernel_rfl) rfl (by kernel_rfl) (by kernel_rfl) Tryz.underlying3
 unfold World.cell? at hm
 split at hm
 ·rename_i c e f hb
  exact ⟨c, m, by unfold immOf; rw [show W.heap[0]? = some (.cells c e f) from hb], by simpa using hm⟩
 ·cases hm
section
variable {H : Type} {enc : TypeId × Value → H} {W : World} {base : Nat} {spare : Nat → Bool} {held : Bool}
theorem Tryz.open_i64s {n : Nat} {cs : List Value} {x : DataW H × List MemPlace} (h : DataW.trod enc Tryz.prog W base spare held n 39 cs = some x) (hw : fitsW Tryz.prog 39 x.1) : ∃ v l, cs = [v] ∧ (∀ y ∈ l, (fun _ : Int => True) y) ∧ (slS 1 (fun z => [intS .i64 z]) l).den (immOf W) v :=
 open_list (f := fun z => [intS .i64 z]) (Good := fun _ => True) Tryz.underlying39 (by kernel_rfl) (by omega) (of_decide_eq_true (by kernel_rfl)) (fun _ => rfl) (fun n cs x h _ => by
  obtain ⟨z, rfl, _, _⟩ := DataW.trod_int (k := .i64) Tryz.underlying3 h
  exact ⟨z, trivial, dens_cons rfl dens_nil, fun x hx => by rw [List.mem_singleton.1 hx]; rfl⟩) h hw
end
end Go.Proofs
