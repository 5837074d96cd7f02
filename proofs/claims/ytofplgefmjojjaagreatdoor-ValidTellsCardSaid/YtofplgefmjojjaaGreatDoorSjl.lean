/- The laws ValidTells hold, as rows and as tied cards: whatever the arguments, the call answers true and turns nothing. Conditions: those of the rows, no other. -/
import Derived.Test.YtofplgefmjojjaaGreatDoorSnz
import Derived.Test.YtofplgefmjojjaaGreatDoorSzx
import Derived.Test.YtofplgefmjojjaaGreatDoorSzv
import Derived.Test.YtofplgefmjojjaaGreatDoorSgw
import Derived.Test.YtofplgefmjojjaaGreatDoorCards
import Derived.Test.YtofplgefmjojjaaGreatDoorTie
import Derived.SevenTiedAt
namespace Go.Proofs.YtofplgefmjojjaaGreatDoor
open Go Go.Sv Num Go.RowKit Go.ChangeShapes Go.WideShapes
theorem own : ownKnob Tryz.prog.godebug = none := by kernel_rfl
theorem laidOut : laidOutB Tryz.prog = true := by kernel_rfl
abbrev laid1 : List (String × DataW Unit) := [("math/bits.deBruijn64tab", Rows.laid_math_bits_deBruijn64tab)]
theorem door_met (os : Os) (args : Array Value) : laidMetH Tryz.prog laid1 ((World.doorLaid Tryz.prog 14 os).forCall (fun _ _ => 0) ⟨#[], args, []⟩).memory :=
 laidMetH_of_parts3 (fuel := 8) (laidMet_of_run' 65 (by kernel_rfl) (by kernel_rfl)) (by kernel_rfl) (by kernel_rfl)
theorem reads {l : List TypeId} (h : (l.all fun t => Tryz.prog.readableRec t && decide (t < Tryz.prog.types.size)) = true) : ∀ t ∈ l, Tryz.prog.readableRec t = true ∧ t < Tryz.prog.types.size := fun t ht => by
 have := List.all_eq_true.1 h t ht
 simpa using this
abbrev nat0 : Value := .slice none 0 0
abbrev pt0 : Value := .agg #[.bool false, nat0, nat0, .bool false, nat0, nat0]
abbrev rat0 : Value := .agg #[.bool false, nat0, nat0]
abbrev int0 : Value := .agg #[.bool false, nat0]
abbrev sc0 : Value := .agg #[nat0, nat0, nat0]
set_option maxRecDepth 100000 in
theorem validTells_lifted (os : Os) (started : os.Started) (H : Type) (enc : TypeId × Value → H) :
  ReturnsInHanded {} Tryz.checked os 6 .any (fun w args => (Rows.validTellsSpec.pre enc Tryz.prog Tryz.f6 [] false w args ∧ laidMetH Tryz.prog laid1 w) ∧ sizedMet enc Tryz.prog Tryz.f6 (OpenSpec.ofChange Rows.validTellsSpec) false w args)
   (Rows.validTellsSpec.post enc Tryz.prog Tryz.f6 false true false false) := by
 refine law_liftedS (C := Tryz.checked) (X := fun w => laidMetH Tryz.prog laid1 w) (fun _ _ hh h => h.of_heap hh) own started (by kernel_rfl) Tryz.func6
  (ChangeSpec.witness_shaped (enc := enc) (C := Tryz.checked) (os := os) (X := fun w _ => laidMetH Tryz.prog laid1 w) false (World.doorLaid Tryz.prog 14 os) #[sc0, .string ⟨#[]⟩, nat0] 8 rfl (World.shaped_of_RefB (by kernel_rfl) (by kernel_rfl)) (by kernel_rfl) (by kernel_rfl) (by kernel_rfl) (door_met os _))
  laidOut rfl Tryz.isBool4 rfl (reads (by kernel_rfl)) (fun ds h => ?_) fun W hsh hx => ?_
 ·match ds, h with
  | [_, _, _], _ => rfl
 ·haveI := Tryz.tab_of hx
  haveI := Tryz.maxLen_of hsh
  rw [Tryz.params6]
  refine openAll_agg Tryz.underlying54 (fun _ _ _ h w => Tryz.open_scene h w) fun x1 h1 => ?_;refine openAll_text Tryz.underlying9 fun x2 h2 => ?_;refine openAll_row Tryz.underlying39 (fun _ _ _ h w => Tryz.open_i64s h w) fun x3 h3 => ?_
  exact openAll_nil (validTells_spec h1)
theorem validTells_row : Rows.ValidTellsSaid :=
 OpenClaim.holds_of_wide 6 Tryz.f6 rfl rfl rfl rfl rfl rfl rfl ⟨rfl, rfl, rfl, rfl, rfl⟩ rfl rfl rfl rfl rfl (by kernel_rfl) Tryz.func6 (by kernel_rfl)
  (of_decide_eq_true (by kernel_rfl)) (by unfold Func.isWrapper; first | (rw [if_pos (by decide +kernel)]; kernel_rfl) | (rw [if_neg (by decide +kernel)]; exact ⟨rfl, rfl⟩))
  (fun os started H enc _ => validTells_lifted os started H enc)
theorem validTells_card : Rows.ValidTellsCardSaid :=
 Claim7.holds_tied_plain_at .later [] [.data] true _ false validTells_row (fun _ h => by cases h) (by kernel_rfl) (fun _ h => by cases h) validTells_row_tie rfl ⟨rfl, rfl⟩ (by kernel_rfl) rfl
  (fun f fn hf hfn => by
   obtain rfl : f = 6 := Option.some.inj ((show Tryz.prog.funcNamed "strait/straitlaw14.ValidTells" = some 6 by kernel_rfl).symm.trans hf) |>.symm
   obtain rfl : fn = Tryz.f6 := (Option.some.inj (Tryz.func6.symm.trans hfn)).symm
   exact ⟨by kernel_rfl, fun j t ht => by
    have hall : (Tryz.f6.params.toList.all fun u => !Tryz.prog.wantsStandIn u) = true := by kernel_rfl
    have hm : t ∈ Tryz.f6.params.toList := by simpa using Array.mem_of_getElem? ht
    exact (show Tryz.prog.wantsStandIn t = false by simpa using List.all_eq_true.1 hall t hm)⟩)
  (by kernel_rfl)
#print axioms validTells_card
end Go.Proofs.YtofplgefmjojjaaGreatDoor
