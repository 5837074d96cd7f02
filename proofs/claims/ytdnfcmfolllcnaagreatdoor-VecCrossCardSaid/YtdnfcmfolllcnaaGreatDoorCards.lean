/-
  DERIVED. GIVEN WITH THE SEED: THE CARDS: each row of YtdnfcmfolllcnaaGreatDoorRows.lean that lists a variable, with what it lists TIED to the program's text (the seventh form; the later family's looks); each row that meets fmt, with fmt's text TOLD by the authors' own Lean function (tested against real Go, not proved from fmt's source: count such statements apart). THE CARD IS WHAT COUNTS. Prove the row's statement (the work); the ties are given (YtdnfcmfolllcnaaGreatDoorTie.lean); close each card by the builder's one call (the guide's Derived/Test/ToyasCard.lean, 'card_holds'). Laid BY PROGRAM, IN A SANDBOX (cutbox-door.mjs). By AI agents, Wed Nov 11 2026. No macro, syntax, notation, axiom, sorry.
-/
import Derived.Test.YtdnfcmfolllcnaaGreatDoorRows
import GoSem.ClaimSeven
namespace Go.Proofs.YtdnfcmfolllcnaaGreatDoor
namespace Rows

/-- THE TIED CARD OF 'straitlaw08.VecWays'. -/
def vecWaysCard : Claim7 := { stood := { row := vecWaysRow, standIns := [], harness := (true, "093868cb2d1664447b452920cb4a35a0a7faf13b3922b393433934cf1bf569fb"), looks := false }, kinds := [], alts := [], laidByText := true, laidKinds := [.data], laidTests := true, laidLooks := .later }
def VecWaysCardSaid : Prop := Claim7.holds Tryz.pinned (.plain (OpenSpec.ofChange vecWaysSpec)) vecWaysCard

/-- THE TIED CARD OF 'straitlaw08.VecCross'. -/
def vecCrossCard : Claim7 := { stood := { row := vecCrossRow, standIns := [], harness := (true, "093868cb2d1664447b452920cb4a35a0a7faf13b3922b393433934cf1bf569fb"), looks := false }, kinds := [], alts := [], laidByText := true, laidKinds := [.data], laidTests := true, laidLooks := .later }
def VecCrossCardSaid : Prop := Claim7.holds Tryz.pinned (.plain (OpenSpec.ofChange vecCrossSpec)) vecCrossCard

/-- THE TIED CARD OF 'straitlaw08.VecOrder'. -/
def vecOrderCard : Claim7 := { stood := { row := vecOrderRow, standIns := [], harness := (true, "093868cb2d1664447b452920cb4a35a0a7faf13b3922b393433934cf1bf569fb"), looks := false }, kinds := [], alts := [], laidByText := true, laidKinds := [.data], laidTests := true, laidLooks := .later }
def VecOrderCardSaid : Prop := Claim7.holds Tryz.pinned (.plain (OpenSpec.ofChange vecOrderSpec)) vecOrderCard

/-- THE TIED CARD OF 'straitlaw08.VecTells'. -/
def vecTellsCard : Claim7 := { stood := { row := vecTellsRow, standIns := [], harness := (true, "093868cb2d1664447b452920cb4a35a0a7faf13b3922b393433934cf1bf569fb"), looks := false }, kinds := [], alts := [], laidByText := true, laidKinds := [.data], laidTests := true, laidLooks := .later }
def VecTellsCardSaid : Prop := Claim7.holds Tryz.pinned (.plain (OpenSpec.ofChange vecTellsSpec)) vecTellsCard

/-- THE SECOND FORM's CARD OF 'straitlaw08.VecWays'. -/
def vecWaysUptoCard : Claim7 := { stood := { row := vecWaysUptoRow, standIns := [], harness := (true, "093868cb2d1664447b452920cb4a35a0a7faf13b3922b393433934cf1bf569fb"), looks := false }, kinds := [], alts := [], laidByText := true, laidKinds := [.data], laidTests := true, laidLooks := .later }
def VecWaysUptoCardSaid : Prop := Claim7.holds Tryz.pinned (.plain (OpenSpec.upto vecWaysSpec)) vecWaysUptoCard

/-- THE SECOND FORM's CARD OF 'straitlaw08.VecCross'. -/
def vecCrossUptoCard : Claim7 := { stood := { row := vecCrossUptoRow, standIns := [], harness := (true, "093868cb2d1664447b452920cb4a35a0a7faf13b3922b393433934cf1bf569fb"), looks := false }, kinds := [], alts := [], laidByText := true, laidKinds := [.data], laidTests := true, laidLooks := .later }
def VecCrossUptoCardSaid : Prop := Claim7.holds Tryz.pinned (.plain (OpenSpec.upto vecCrossSpec)) vecCrossUptoCard

/-- THE SECOND FORM's CARD OF 'straitlaw08.VecOrder'. -/
def vecOrderUptoCard : Claim7 := { stood := { row := vecOrderUptoRow, standIns := [], harness := (true, "093868cb2d1664447b452920cb4a35a0a7faf13b3922b393433934cf1bf569fb"), looks := false }, kinds := [], alts := [], laidByText := true, laidKinds := [.data], laidTests := true, laidLooks := .later }
def VecOrderUptoCardSaid : Prop := Claim7.holds Tryz.pinned (.plain (OpenSpec.upto vecOrderSpec)) vecOrderUptoCard

/-- THE SECOND FORM's CARD OF 'straitlaw08.VecTells'. -/
def vecTellsUptoCard : Claim7 := { stood := { row := vecTellsUptoRow, standIns := [], harness := (true, "093868cb2d1664447b452920cb4a35a0a7faf13b3922b393433934cf1bf569fb"), looks := false }, kinds := [], alts := [], laidByText := true, laidKinds := [.data], laidTests := true, laidLooks := .later }
def VecTellsUptoCardSaid : Prop := Claim7.holds Tryz.pinned (.plain (OpenSpec.upto vecTellsSpec)) vecTellsUptoCard
end Rows
end Go.Proofs.YtdnfcmfolllcnaaGreatDoor
