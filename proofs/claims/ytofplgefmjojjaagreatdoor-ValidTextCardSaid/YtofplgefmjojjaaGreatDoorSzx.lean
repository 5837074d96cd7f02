/- A text and a list of integers as arguments; the length that the library's search bears (seats with one laid table). -/
import Derived.Test.YtofplgefmjojjaaGreatDoorSsk
import Derived.Test.YtofplgefmjojjaaGreatDoorSzn
import Derived.Test.YtofplgefmjojjaaGreatDoorSv2
import Derived.ChangeMaps5
import Derived.Lay
import Derived.Shelf.Vars
namespace Go.Sv
open Go Go.RowKit Go.ChangeShapes Go.WideShapes
section
variable {H : Type} {enc : TypeId × Value → H} {P : Program} {W : World} {Q : List SV → Prop} {t : TypeId} {ts : List TypeId} {ss : List SV}
theorem openAll_text (ht : P.underlying t = some .string) (hn : ∀ l : List UInt8, l.length ≤ maxLen → openAll enc P W Q ts (strS l :: ss)) : openAll enc P W Q (t :: ts) ss := fun _ _ _ _ hv hd _ => by
 obtain ⟨s, rfl, _, _, hs⟩ := ChangeMaps.open_string ht hv hd
 exact ⟨_, rfl, hn s.data.toList (by rw [Array.length_toList]; exact hs)⟩
end
end Go.Sv
namespace Go.Proofs
open Go Go.Sv Num Go.RowKit Go.ChangeShapes Go.WideShapes
theorem Tryz.maxLen_of {W : World} (h : W.ShapedOpen Tryz.prog) : MaxLen (immOf W) := by
 obtain ⟨m, hm⟩ : ∃ m, W.cell? ⟨0, 0, none⟩ = some (.int .i64 m) := Go.Proofs.cell_of_shapedOpen_int (zero := #[.int .i64 0]) (t := 3) h (of_decide_eq_true (by kernel_rfl)) (by kernel_rfl) rfl (by kernel_rfl) (by kernel_rfl) Tryz.underlying3
 unfold World.cell? at hm
 split at hm
 ·rename_i c e f hb
  exact ⟨c, m, by unfold immOf; rw [show W.heap[0]? = some (.cells c e f) from hb], by simpa using hm⟩
 ·cases hm
section
variable {H : Type} {enc : TypeId × Value → H} {W : World} {base : Nat} {spare : Nat → Bool} {held : Bool}
end
end Go.Proofs
