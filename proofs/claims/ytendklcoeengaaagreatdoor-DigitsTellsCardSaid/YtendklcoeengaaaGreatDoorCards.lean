/-
  DERIVED. GIVEN WITH THE SEED: THE CARDS: each row of YtendklcoeengaaaGreatDoorRows.lean that lists a variable, with what it lists TIED to the program's text (the seventh form; the later family's looks); each row that meets fmt, with fmt's text TOLD by the authors' own Lean function (tested against real Go, not proved from fmt's source: count such statements apart). THE CARD IS WHAT COUNTS. Prove the row's statement (the work); the ties are given (YtendklcoeengaaaGreatDoorTie.lean); close each card by the builder's one call (the guide's Derived/Test/ToyasCard.lean, 'card_holds'). Laid BY PROGRAM, IN A SANDBOX (cutbox-door.mjs). By AI agents, Wed Nov 11 2026. No macro, syntax, notation, axiom, sorry.
-/
import Derived.Test.YtendklcoeengaaaGreatDoorRows
import GoSem.ClaimSeven
namespace Go.Proofs.YtendklcoeengaaaGreatDoor
namespace Rows

/-- THE TIED CARD OF 'straitlaw09.SideAlong'. -/
def sideAlongCard : Claim7 := { stood := { row := sideAlongRow, standIns := [], harness := (true, "8d29264e96c2f84ba3b45daac67f8d795e64312b3152a28ef512dad2f21ef44e"), looks := false }, kinds := [], alts := [], laidByText := true, laidKinds := [.data], laidTests := true, laidLooks := .later }
def SideAlongCardSaid : Prop := Claim7.holds Tryz.pinned (.plain (OpenSpec.ofChange sideAlongSpec)) sideAlongCard

/-- THE TIED CARD OF 'straitlaw13.SimpleTurns'. -/
def simpleTurnsCard : Claim7 := { stood := { row := simpleTurnsRow, standIns := [], harness := (true, "8d29264e96c2f84ba3b45daac67f8d795e64312b3152a28ef512dad2f21ef44e"), looks := false }, kinds := [], alts := [], laidByText := true, laidKinds := [.data], laidTests := true, laidLooks := .later }
def SimpleTurnsCardSaid : Prop := Claim7.holds Tryz.pinned (.plain (OpenSpec.ofChange simpleTurnsSpec)) simpleTurnsCard

/-- THE TIED CARD OF 'straitlaw13.SimpleConvex'. -/
def simpleConvexCard : Claim7 := { stood := { row := simpleConvexRow, standIns := [], harness := (true, "8d29264e96c2f84ba3b45daac67f8d795e64312b3152a28ef512dad2f21ef44e"), looks := false }, kinds := [], alts := [], laidByText := true, laidKinds := [.data], laidTests := true, laidLooks := .later }
def SimpleConvexCardSaid : Prop := Claim7.holds Tryz.pinned (.plain (OpenSpec.ofChange simpleConvexSpec)) simpleConvexCard

/-- THE TIED CARD OF 'straitlaw13.SimpleTwice'. -/
def simpleTwiceCard : Claim7 := { stood := { row := simpleTwiceRow, standIns := [], harness := (true, "8d29264e96c2f84ba3b45daac67f8d795e64312b3152a28ef512dad2f21ef44e"), looks := false }, kinds := [], alts := [], laidByText := true, laidKinds := [.data], laidTests := true, laidLooks := .later }
def SimpleTwiceCardSaid : Prop := Claim7.holds Tryz.pinned (.plain (OpenSpec.ofChange simpleTwiceSpec)) simpleTwiceCard

/-- THE TIED CARD OF 'straitlaw06.DigitsTells'. -/
def digitsTellsCard : Claim7 := { stood := { row := digitsTellsRow, standIns := [], harness := (true, "8d29264e96c2f84ba3b45daac67f8d795e64312b3152a28ef512dad2f21ef44e"), looks := false }, kinds := [], alts := [], laidByText := true, laidKinds := [.data, .data, .data, .data, .pinned], laidTests := true, laidLooks := .later }
def DigitsTellsCardSaid : Prop := Claim7.holds Tryz.pinned (.plain (OpenSpec.ofChange digitsTellsSpec)) digitsTellsCard

/-- THE SECOND FORM's CARD OF 'straitlaw09.SideAlong'. -/
def sideAlongUptoCard : Claim7 := { stood := { row := sideAlongUptoRow, standIns := [], harness := (true, "8d29264e96c2f84ba3b45daac67f8d795e64312b3152a28ef512dad2f21ef44e"), looks := false }, kinds := [], alts := [], laidByText := true, laidKinds := [.data], laidTests := true, laidLooks := .later }
def SideAlongUptoCardSaid : Prop := Claim7.holds Tryz.pinned (.plain (OpenSpec.upto sideAlongSpec)) sideAlongUptoCard

/-- THE SECOND FORM's CARD OF 'straitlaw13.SimpleTurns'. -/
def simpleTurnsUptoCard : Claim7 := { stood := { row := simpleTurnsUptoRow, standIns := [], harness := (true, "8d29264e96c2f84ba3b45daac67f8d795e64312b3152a28ef512dad2f21ef44e"), looks := false }, kinds := [], alts := [], laidByText := true, laidKinds := [.data], laidTests := true, laidLooks := .later }
def SimpleTurnsUptoCardSaid : Prop := Claim7.holds Tryz.pinned (.plain (OpenSpec.upto simpleTurnsSpec)) simpleTurnsUptoCard

/-- THE SECOND FORM's CARD OF 'straitlaw13.SimpleConvex'. -/
def simpleConvexUptoCard : Claim7 := { stood := { row := simpleConvexUptoRow, standIns := [], harness := (true, "8d29264e96c2f84ba3b45daac67f8d795e64312b3152a28ef512dad2f21ef44e"), looks := false }, kinds := [], alts := [], laidByText := true, laidKinds := [.data], laidTests := true, laidLooks := .later }
def SimpleConvexUptoCardSaid : Prop := Claim7.holds Tryz.pinned (.plain (OpenSpec.upto simpleConvexSpec)) simpleConvexUptoCard

/-- THE SECOND FORM's CARD OF 'straitlaw13.SimpleTwice'. -/
def simpleTwiceUptoCard : Claim7 := { stood := { row := simpleTwiceUptoRow, standIns := [], harness := (true, "8d29264e96c2f84ba3b45daac67f8d795e64312b3152a28ef512dad2f21ef44e"), looks := false }, kinds := [], alts := [], laidByText := true, laidKinds := [.data], laidTests := true, laidLooks := .later }
def SimpleTwiceUptoCardSaid : Prop := Claim7.holds Tryz.pinned (.plain (OpenSpec.upto simpleTwiceSpec)) simpleTwiceUptoCard

/-- THE SECOND FORM's CARD OF 'straitlaw06.DigitsTells'. -/
def digitsTellsUptoCard : Claim7 := { stood := { row := digitsTellsUptoRow, standIns := [], harness := (true, "8d29264e96c2f84ba3b45daac67f8d795e64312b3152a28ef512dad2f21ef44e"), looks := false }, kinds := [], alts := [], laidByText := true, laidKinds := [.data, .data, .data, .data, .pinned], laidTests := true, laidLooks := .later }
def DigitsTellsUptoCardSaid : Prop := Claim7.holds Tryz.pinned (.plain (OpenSpec.upto digitsTellsSpec)) digitsTellsUptoCard
end Rows
end Go.Proofs.YtendklcoeengaaaGreatDoor
