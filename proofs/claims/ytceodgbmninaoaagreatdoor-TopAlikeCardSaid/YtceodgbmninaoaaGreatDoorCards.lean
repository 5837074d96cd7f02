/-
  DERIVED. GIVEN WITH THE SEED: THE CARDS: each row of YtceodgbmninaoaaGreatDoorRows.lean that lists a variable, with what it lists TIED to the program's text (the seventh form; the later family's looks); each row that meets fmt, with fmt's text TOLD by the authors' own Lean function (tested against real Go, not proved from fmt's source: count such statements apart). THE CARD IS WHAT COUNTS. Prove the row's statement (the work); the ties are given (YtceodgbmninaoaaGreatDoorTie.lean); close each card by the builder's one call (the guide's Derived/Test/ToyasCard.lean, 'card_holds'). Laid BY PROGRAM, IN A SANDBOX (cutbox-door.mjs). By AI agents, Wed Nov 11 2026. No macro, syntax, notation, axiom, sorry.
-/
import Derived.Test.YtceodgbmninaoaaGreatDoorRows
import GoSem.ClaimSeven
namespace Go.Proofs.YtceodgbmninaoaaGreatDoor
namespace Rows

/-- THE TIED CARD OF 'straitlaw31.PlannerLines'. -/
def plannerLinesCard : Claim7 := { stood := { row := plannerLinesRow, standIns := [], harness := (true, "4d956119b98dd8944acf69a0a8f4f3d8f8d07ef6189ca906bc1ff619efd13a2f"), looks := true }, kinds := [], alts := [], laidByText := true, laidKinds := [.data, .data, .data, .data, .pinned], laidTests := true, laidLooks := .later }
def PlannerLinesCardSaid : Prop := Claim7.holds Tryz.pinned (.plain (OpenSpec.ofChange plannerLinesSpec)) plannerLinesCard

/-- THE TIED CARD OF 'straittop.TopBack'. -/
def topBackCard : Claim7 := { stood := { row := topBackRow, standIns := [], harness := (true, "4d956119b98dd8944acf69a0a8f4f3d8f8d07ef6189ca906bc1ff619efd13a2f"), looks := true }, kinds := [], alts := [], laidByText := true, laidKinds := [.data, .data, .data, .data, .pinned], laidTests := true, laidLooks := .later }
def TopBackCardSaid : Prop := Claim7.holds Tryz.pinned (.plain (OpenSpec.ofChange topBackSpec)) topBackCard

/-- THE TIED CARD OF 'straittop.TopAlike'. -/
def topAlikeCard : Claim7 := { stood := { row := topAlikeRow, standIns := [], harness := (true, "4d956119b98dd8944acf69a0a8f4f3d8f8d07ef6189ca906bc1ff619efd13a2f"), looks := true }, kinds := [], alts := [], laidByText := true, laidKinds := [.data, .data, .data, .data, .pinned], laidTests := true, laidLooks := .later }
def TopAlikeCardSaid : Prop := Claim7.holds Tryz.pinned (.plain (OpenSpec.ofChange topAlikeSpec)) topAlikeCard

/-- THE SECOND FORM's CARD OF 'straitlaw31.PlannerLines'. -/
def plannerLinesUptoCard : Claim7 := { stood := { row := plannerLinesUptoRow, standIns := [], harness := (true, "4d956119b98dd8944acf69a0a8f4f3d8f8d07ef6189ca906bc1ff619efd13a2f"), looks := true }, kinds := [], alts := [], laidByText := true, laidKinds := [.data, .data, .data, .data, .pinned], laidTests := true, laidLooks := .later }
def PlannerLinesUptoCardSaid : Prop := Claim7.holds Tryz.pinned (.plain (OpenSpec.upto plannerLinesSpec)) plannerLinesUptoCard

/-- THE SECOND FORM's CARD OF 'straittop.TopBack'. -/
def topBackUptoCard : Claim7 := { stood := { row := topBackUptoRow, standIns := [], harness := (true, "4d956119b98dd8944acf69a0a8f4f3d8f8d07ef6189ca906bc1ff619efd13a2f"), looks := true }, kinds := [], alts := [], laidByText := true, laidKinds := [.data, .data, .data, .data, .pinned], laidTests := true, laidLooks := .later }
def TopBackUptoCardSaid : Prop := Claim7.holds Tryz.pinned (.plain (OpenSpec.upto topBackSpec)) topBackUptoCard

/-- THE SECOND FORM's CARD OF 'straittop.TopAlike'. -/
def topAlikeUptoCard : Claim7 := { stood := { row := topAlikeUptoRow, standIns := [], harness := (true, "4d956119b98dd8944acf69a0a8f4f3d8f8d07ef6189ca906bc1ff619efd13a2f"), looks := true }, kinds := [], alts := [], laidByText := true, laidKinds := [.data, .data, .data, .data, .pinned], laidTests := true, laidLooks := .later }
def TopAlikeUptoCardSaid : Prop := Claim7.holds Tryz.pinned (.plain (OpenSpec.upto topAlikeSpec)) topAlikeUptoCard
end Rows
end Go.Proofs.YtceodgbmninaoaaGreatDoor
